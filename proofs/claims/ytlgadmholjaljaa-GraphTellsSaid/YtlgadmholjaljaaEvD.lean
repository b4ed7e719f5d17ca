/-
  Evaluation of Go code on plain data: runs of an operation's steps. Over any program.
-/
import Derived.Test.YtlgadmholjaljaaEvC
namespace Go.Proofs.Ytlgadmholjaljaa
open Go.RowKit

inductive Step.Runs (F : FuncId → List AV → AV → Prop) : Step → Mem → AV → Mem → Prop
  | ret {v : AV} {m : Mem} : Runs F (.ret v) m v m
  | rdb {s g : Nat} {k : List AV → Step} {m m' : Mem} {v : AV} {cs : List AV} (h : m.at_ s g = some (.box cs)) (r : Runs F (k cs) m v m') : Runs F (.rdb s g k) m v m'
  | rdr {s g : Nat} {k : List (List D) → Step} {m m' : Mem} {v : AV} {sz : Nat} {es : List (List D)} {ro : Bool} (h : m.at_ s g = some (.rows sz es ro)) (r : Runs F (k es) m v m') : Runs F (.rdr s g k) m v m'
  | rdm {s g : Nat} {k : CK → List (Value × D) → Step} {m m' : Mem} {v : AV} {ck : CK} {es : List (Value × D)} (h : m.at_ s g = some (.mapi ck es)) (r : Runs F (k ck es) m v m') : Runs F (.rdm s g k) m v m'
  | rww {s g : Nat} {k : Nat → List (List D) → Step} {m m' : Mem} {v : AV} {sz : Nat} {es : List (List D)} (h : m.at_ s g = some (.rows sz es false)) (r : Runs F (k sz es) m v m') : Runs F (.rww s g k) m v m'
  | rdz {s g z : Nat} {k : Step} {m m' : Mem} {v : AV} {es : List (List D)} {ro : Bool} (h : m.at_ s g = some (.rows z es ro)) (r : Runs F k m v m') : Runs F (.rdz s g z k) m v m'
  | wr {s g : Nat} {i : Inst} {k : Step} {m m' : Mem} {v : AV} (r : Runs F k (m.set s g (some i)) v m') : Runs F (.wr s g i k) m v m'
  | new {s : Nat} {i : Inst} {k : Nat → Step} {m m' : Mem} {v : AV} (r : Runs F (k (m.gen s + 1)) (m.add s i) v m') : Runs F (.new s i k) m v m'
  | app {s g sz : Nat} {xs : List (List D)} {k : Nat → Step} {m m' : Mem} {v : AV} {es : List (List D)} (h : m.at_ s g = some (.rows sz es false)) (r : Runs F (k (m.gen s + 1)) ((m.set s g none).add s (.rows sz (es ++ xs) false)) v m') : Runs F (.app s g sz xs k) m v m'
  | frz {s g sz : Nat} {es : List (List D)} {ro : Bool} {k : Step} {m m' : Mem} {v : AV} (h : m.at_ s g = some (.rows sz es ro)) (r : Runs F k (m.set s g (some (.rows sz es true))) v m') : Runs F (.frz s g k) m v m'
  | elem {es : List (List D)} {i : Nat} {k : List D → Step} {m m' : Mem} {v : AV} {c : List D} (h : es[i]? = some c) (r : Runs F (k c) m v m') : Runs F (.elem es i k) m v m'
  | call {f : FuncId} {args : List AV} {k : AV → Step} {m m' : Mem} {v x : AV} (h : F f args x) (r : Runs F (k x) m v m') : Runs F (.call f args k) m v m'
  | chk {p : Prop} {k : Step} {m m' : Mem} {v : AV} (h : p) (r : Runs F k m v m') : Runs F (.chk p k) m v m'
  | br {b : Bool} {x y : Step} {m m' : Mem} {v : AV} (r : Runs F (bif b then x else y) m v m') : Runs F (.br b x y) m v m'
theorem Step.wp_runs {F : FuncId → List AV → AV → Prop} (s : Step) : ∀ (m : Mem) (K : AV → Mem → Prop), s.wp F m K → ∃ v m', s.Runs F m v m' ∧ K v m' := by
  induction s with
  | ret v => exact fun m K h => ⟨v, m, .ret, h⟩
  | rdb s g k ih =>
    intro m K h
    simp only [Step.wp] at h
    split at h
    · rename_i cs hc
      obtain ⟨v, m', hr, hk⟩ := ih _ _ _ h
      exact ⟨v, m', .rdb hc hr, hk⟩
    · exact h.elim
  | rdr s g k ih =>
    intro m K h
    simp only [Step.wp] at h
    split at h
    · rename_i sz es ro hc
      obtain ⟨v, m', hr, hk⟩ := ih _ _ _ h
      exact ⟨v, m', .rdr hc hr, hk⟩
    · exact h.elim
  | rdm s g k ih =>
    intro m K h
    simp only [Step.wp] at h
    split at h
    · rename_i ck es hc
      obtain ⟨v, m', hr, hk⟩ := ih _ _ _ _ h
      exact ⟨v, m', .rdm hc hr, hk⟩
    · exact h.elim
  | rww s g k ih =>
    intro m K h
    simp only [Step.wp] at h
    split at h
    · rename_i sz es hc
      obtain ⟨v, m', hr, hk⟩ := ih _ _ _ _ h
      exact ⟨v, m', .rww hc hr, hk⟩
    · exact h.elim
  | rdz s g z k ih =>
    intro m K h
    simp only [Step.wp] at h
    split at h
    · rename_i sz es ro hc
      by_cases he : sz = z
      · subst he
        simp only [Nat.beq_refl, cond_true] at h
        obtain ⟨v, m', hr, hk⟩ := ih _ _ h
        exact ⟨v, m', .rdz hc hr, hk⟩
      · rw [beq_dec] at h
        simp only [he, decide_false, cond_false] at h
    · exact h.elim
  | wr s g i k ih =>
    intro m K h
    obtain ⟨v, m', hr, hk⟩ := ih _ _ h
    exact ⟨v, m', .wr hr, hk⟩
  | new s i k ih =>
    intro m K h
    obtain ⟨v, m', hr, hk⟩ := ih _ _ _ h
    exact ⟨v, m', .new hr, hk⟩
  | app s g sz xs k ih =>
    intro m K h
    simp only [Step.wp] at h
    split at h
    · rename_i sz' es hc
      by_cases he : sz = sz'
      · subst he
        simp only [Nat.beq_refl, cond_true] at h
        obtain ⟨v, m', hr, hk⟩ := ih _ _ _ h
        exact ⟨v, m', .app hc hr, hk⟩
      · rw [beq_dec] at h
        simp only [he, decide_false, cond_false] at h
    · exact h.elim
  | frz s g k ih =>
    intro m K h
    simp only [Step.wp] at h
    split at h
    · rename_i sz es ro hc
      obtain ⟨v, m', hr, hk⟩ := ih _ _ h
      exact ⟨v, m', .frz hc hr, hk⟩
    · exact h.elim
  | elem es i k ih =>
    rintro m K ⟨c, hc, h⟩
    obtain ⟨v, m', hr, hk⟩ := ih _ _ _ h
    exact ⟨v, m', .elem hc hr, hk⟩
  | call f args k ih =>
    rintro m K ⟨r, hf, h⟩
    obtain ⟨v, m', hr, hk⟩ := ih _ _ _ h
    exact ⟨v, m', .call hf hr, hk⟩
  | chk p k ih =>
    rintro m K ⟨hp, h⟩
    obtain ⟨v, m', hr, hk⟩ := ih _ _ h
    exact ⟨v, m', .chk hp hr, hk⟩
  | br b x y ihx ihy =>
    rintro m K ⟨h1, h2⟩
    cases b
    · obtain ⟨v, m', hr, hk⟩ := ihy _ _ (h2 rfl)
      exact ⟨v, m', .br hr, hk⟩
    · obtain ⟨v, m', hr, hk⟩ := ihx _ _ (h1 rfl)
      exact ⟨v, m', .br hr, hk⟩
  | fail => exact fun m K h => h.elim

/- lists of values -/
def RelL (κ : Cx) (cs : List AV) (vs : List Value) : Prop := vs.length = cs.length ∧ ∀ (j : Nat) (c : AV) (v : Value), cs[j]? = some c → vs[j]? = some v → Rel κ c v
theorem RelL.mono {κ κ' : Cx} (h : κ.Le κ') {cs : List AV} {vs : List Value} (hr : RelL κ cs vs) : RelL κ' cs vs := ⟨hr.1, fun j c v hc hv => (hr.2 j c v hc hv).mono h⟩
theorem RelL.nil (κ : Cx) : RelL κ [] [] := ⟨rfl, fun j c v h => by simp at h⟩
theorem RelL.cons {κ : Cx} {c : AV} {cs : List AV} {v : Value} {vs : List Value} (h : Rel κ c v) (hs : RelL κ cs vs) : RelL κ (c :: cs) (v :: vs) :=
  ⟨by simp [hs.1], fun j x y hx hy => by
    cases j with
    | zero => simp at hx hy; subst hx hy; exact h
    | succ j => exact hs.2 j x y (by simpa using hx) (by simpa using hy)⟩
theorem RelL.cons_inv {κ : Cx} {c : AV} {cs : List AV} {vs : List Value} (h : RelL κ (c :: cs) vs) : ∃ v vs', vs = v :: vs' ∧ Rel κ c v ∧ RelL κ cs vs' := by
  cases vs with
  | nil => have := h.1; simp at this
  | cons v vs' => exact ⟨v, vs', rfl, h.2 0 c v rfl rfl, by have := h.1; simpa using this, fun j x y hx hy => h.2 (j + 1) x y (by simpa using hx) (by simpa using hy)⟩
theorem RelL.nil_inv {κ : Cx} {vs : List Value} (h : RelL κ [] vs) : vs = [] := List.eq_nil_of_length_eq_zero h.1
theorem RelL.get {κ : Cx} {cs : List AV} {vs : List Value} (h : RelL κ cs vs) {j : Nat} {c : AV} (hc : cs[j]? = some c) : ∃ v, vs[j]? = some v ∧ Rel κ c v := by
  have hj : j < vs.length := by rw [h.1]; exact (List.getElem?_eq_some_iff.1 hc).1
  exact ⟨vs[j], List.getElem?_eq_getElem hj, h.2 j c _ hc (List.getElem?_eq_getElem hj)⟩
theorem RelL.take {κ : Cx} {cs : List AV} {vs : List Value} (h : RelL κ cs vs) (n : Nat) : RelL κ (cs.take n) (vs.take n) := ⟨by simp [h.1], fun j c v hc hv => by
  rw [List.getElem?_take] at hc hv
  split at hc
  · rename_i hj
    rw [if_pos hj] at hv
    exact h.2 j c v hc hv
  · cases hc⟩
theorem RelL.drop {κ : Cx} {cs : List AV} {vs : List Value} (h : RelL κ cs vs) (n : Nat) : RelL κ (cs.drop n) (vs.drop n) := ⟨by simp [h.1], fun j c v hc hv => by
  rw [List.getElem?_drop] at hc hv
  exact h.2 _ c v hc hv⟩
theorem RelL.append {κ : Cx} {cs cs' : List AV} {vs vs' : List Value} (h : RelL κ cs vs) (h' : RelL κ cs' vs') : RelL κ (cs ++ cs') (vs ++ vs') := by
  induction cs generalizing vs with
  | nil => rw [h.nil_inv]; exact h'
  | cons c cs ih =>
    obtain ⟨v, vs1, rfl, hv, hs⟩ := h.cons_inv
    exact .cons hv (ih hs)
theorem RelL.over {κ : Cx} {cs cs' : List AV} {vs vs' : List Value} (h : RelL κ cs vs) (h' : RelL κ cs' vs') (o : Nat) : RelL κ (over cs o cs') (over vs o vs') := by
  unfold Go.Proofs.Ytlgadmholjaljaa.over
  have e := h'.1
  rw [e]
  exact ((h.take o).append h').append (h.drop _)
theorem Rel.agg_inv {κ : Cx} {cs : List AV} {v : Value} (h : Rel κ (.agg cs) v) : ∃ vs, v = .agg vs ∧ RelL κ cs vs.toList := by
  cases h with
  | agg hl h => exact ⟨_, rfl, by simpa using hl, fun j c v hc hv => h j c v hc (by simpa using hv)⟩
theorem Rel.tup_inv {κ : Cx} {cs : List AV} {v : Value} (h : Rel κ (.tup cs) v) : ∃ vs, v = .tuple vs ∧ RelL κ cs vs.toList := by
  cases h with
  | tup hl h => exact ⟨_, rfl, by simpa using hl, fun j c v hc hv => h j c v hc (by simpa using hv)⟩
theorem Rel.agg_mk {κ : Cx} {cs : List AV} {vs : List Value} (h : RelL κ cs vs) : Rel κ (.agg cs) (.agg vs.toArray) := .agg (by simpa using h.1) fun j c v hc hv => h.2 j c v hc (by simpa using hv)
theorem Rel.tup_mk {κ : Cx} {cs : List AV} {vs : List Value} (h : RelL κ cs vs) : Rel κ (.tup cs) (.tuple vs.toArray) := .tup (by simpa using h.1) fun j c v hc hv => h.2 j c v hc (by simpa using hv)
/-- the cells of a value -/
theorem Rel.cells {κ : Cx} {x : AV} {v : Value} (h : Rel κ x v) (h1 : (cellsOf x).all isOne = true) : RelL κ (cellsOf x) v.cells.toList ∧ ∀ u ∈ v.cells.toList, u.oneCell' = true := by
  have key : ∀ {cs : List AV} {vs : List Value}, RelL κ cs vs → cs.all isOne = true → ∀ u ∈ vs, u.oneCell' = true := by
    intro cs vs hr ha u hu
    obtain ⟨j, hj, rfl⟩ := List.getElem_of_mem hu
    have hj' : j < cs.length := by rw [← hr.1]; exact hj
    exact (hr.2 j cs[j] vs[j] (List.getElem?_eq_getElem hj') (List.getElem?_eq_getElem hj)).one (List.all_eq_true.1 ha _ (List.getElem_mem hj'))
  have one : ∀ {y : AV}, cellsOf y = [y] → Rel κ y v → isOne y = true → RelL κ (cellsOf y) v.cells.toList ∧ ∀ u ∈ v.cells.toList, u.oneCell' = true := by
    intro y hy hr hy1
    have e : v.cells = #[v] := by
      have := hr.one hy1
      cases v <;> first | rfl | cases this
    rw [hy, e]
    have : RelL κ [y] #[v].toList := .cons hr (.nil κ)
    exact ⟨this, fun u hu => by simp at hu; subst hu; exact hr.one hy1⟩
  cases x with
  | agg cs =>
    obtain ⟨vs, rfl, hr⟩ := h.agg_inv
    exact ⟨hr, key hr h1⟩
  | tup vs => simp [cellsOf, isOne] at h1
  | ow sz es => simp [cellsOf, isOne] at h1
  | _ => exact one rfl h rfl
end Go.Proofs.Ytlgadmholjaljaa
