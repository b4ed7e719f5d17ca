/-
  Evaluation of Go code on plain data: functions that are given a row of the caller's own, and return what is left of it. Over any program.
-/
import Derived.Test.YtlgadmholjaljaaEvQ
namespace Go.Proofs.Ytlgadmholjaljaa
open Go.RowKit
/-- rows that refer to nothing -/
def Plain (es : List (List D)) : Prop := ∀ e ∈ es, ∀ d ∈ e, ∃ x : Value, d = .v x
theorem Plain.map {α : Type} {enc : α → List D} (h : ∀ x, ∀ d ∈ enc x, ∃ v : Value, d = .v v) (l : List α) : Plain (l.map enc) := fun e he => by
  obtain ⟨x, _, rfl⟩ := List.mem_map.1 he
  exact h x
theorem clrMap {α : Type} (enc : α → List D) (x0 : α) (l : List α) (q n : Nat) : (l.map enc).take q ++ List.replicate n (enc x0) ++ (l.map enc).drop (q + n) = (l.take q ++ List.replicate n x0 ++ l.drop (q + n)).map enc := by simp
/-- where such a function starts -/
def stW (sz : Nat) (es : List (List D)) (n : Nat) (args : List AV) : ASt := ⟨nthA (.row 1000000 1 n :: args), fun s g => bif Nat.beq s 1000000 && Nat.beq g 1 then some (.rows sz es false) else none, fun s => bif Nat.beq s 1000000 then 1 else 0⟩
def RetW (T : Nat → TI) (rs : List ResultVar) (sz : Nat) (es : List (List D)) (st : ASt) : Prop := Plain es ∧ valL T st rs fun vs => match vs with
  | [.nl] => es = []
  | [.row s g _] => st.m.at_ s g = some (.rows sz es false)
  | [.sub s g 0 n] => ∃ es0, st.m.at_ s g = some (.rows sz es0 false) ∧ es = es0.take n
  | _ => False
def EndW (T : Nat → TI) (rs : List ResultVar) (sz : Nat) (es : List (List D)) : Ex → ASt → Prop
  | .normal, st => RetW T rs sz es st
  | .ret, st => RetW T rs sz es st
  | .exit _, _ => False
section
variable {P : Program} {T : Nat → TI}
theorem relD_plain {S S' : Nat → Prop} {w : World} {x : Value} {v : Value} (h : RelD S w (.v x) v) : RelD S' w (.v x) v := by
  cases h with
  | v _ h => exact .v _ h
/-- what is left of a row, at the end -/
theorem own_end {w0 : Start} {A : Nat → Prop} {m : Mem} {κ : Cx} (hs : Sim w0 A m κ) {s g sz n : Nat} {es0 es : List (List D)} (hi : m.at_ s g = some (.rows sz es0 false)) (hp : Plain es) {v : Value}
    (hv : (Rel κ (.row s g n) v ∧ es = es0) ∨ (Rel κ (.sub s g 0 n) v ∧ es = es0.take n)) :
    ∃ b', OwnAt (fun _ => False) κ.w sz es v b' ∧ ∀ c, b' = some c → w0.New c ∧ c < κ.w.heap.size := by
  obtain ⟨e1, e2, e3⟩ := hs.ok s g _ hi
  have hown : ∀ b, (κ.φ s g).blk = some b → w0.New b ∧ b < κ.w.heap.size := fun b hb => hs.own s g _ b hi hb
  have nilcase : ∀ A', v = .slice A' 0 0 → es = [] → ∃ b', OwnAt (fun _ => False) κ.w sz es v b' ∧ ∀ c, b' = some c → w0.New c ∧ c < κ.w.heap.size := by
    rintro A' rfl rfl
    exact ⟨none, ⟨by simp, Or.inl ⟨rfl, rfl, A', rfl⟩⟩, fun c h => by cases h⟩
  have some_ : ∀ (b n : Nat), (κ.φ s g).blk = some b → n ≤ es0.length → es = es0.take n → v = .slice (some ⟨b, 0, none⟩) n (κ.φ s g).cap → ∃ b', OwnAt (fun _ => False) κ.w sz es v b' ∧ ∀ c, b' = some c → w0.New c ∧ c < κ.w.heap.size := by
    intro b n hb hn he hv
    rcases e3 with ⟨h4, _⟩ | ⟨b', T', cur, hb', hz, hh, hl, hm, hc, hr⟩
    · rw [h4] at hb; cases hb
    · rw [hb] at hb'
      injection hb' with hb'
      subst hb'
      have hlen : es.length = n := by rw [he, List.length_take]; omega
      refine ⟨some b, ⟨fun e h => e2 e (by rw [he] at h; exact List.mem_of_mem_take h), Or.inr ⟨b, T', cur, (κ.φ s g).cap, rfl, by rw [hlen]; exact hv, hh, by omega, hm, hc, fun i j e x hei hx => ?_⟩⟩, fun c h => ?_⟩
      · have hmem : e ∈ es := List.mem_of_getElem? hei
        obtain ⟨y, rfl⟩ := hp e hmem x (List.mem_of_getElem? hx)
        rw [he, List.getElem?_take] at hei
        split at hei
        · obtain ⟨u, hu, hd⟩ := hr i j e _ hei hx
          exact ⟨u, hu, relD_plain hd⟩
        · cases hei
      · injection h with h
        subst h
        exact hown b hb
  rcases hv with ⟨hv, rfl⟩ | ⟨hv, he⟩
  · cases hv with
    | row0 A' hg hb hl => exact nilcase A' rfl (List.eq_nil_of_length_eq_zero (by rw [e1, hl]))
    | row hg hb => exact some_ _ es.length hb (Nat.le_refl _) (by rw [List.take_length]) (by rw [e1])
  · cases hv with
    | sub0 A' hg hb hl => exact nilcase A' rfl (by rw [he]; rfl)
    | sub A' hg hb hA hn =>
      rcases hA with ⟨rfl, hA⟩ | rfl
      · exact nilcase A' (by rw [hA]) (by rw [he]; rfl)
      · exact some_ _ n hb (by rw [e1]; omega) he (by rw [Nat.zero_mul, Nat.sub_zero])
theorem FnW.of_AW {dr : Prop} {js : List Nat} {F : FuncId → List AV → AV → Prop} {base : Nat} (hm : P.follows .mixedOrders = true) (hT : TOk P T) (heq : ∀ t, (T t).eqs = true → (T t).known = true) (hF : ∀ f args r, F f args r → FnX dr P f args r) {f : FuncId} {fn : Func} {c : Code} {nt : Nat} {rs : List ResultVar} {sz sz' : Nat} {es es' : List (List D)} {args : List AV}
    (hcall : ∀ (args : Array Value) (w : World), (callFunc f args).run P w = .ok (.enter f args) w) (hf : P.funcs[f]? = some fn) (hb : fn.body = some c) (hnt : fn.ntmps = nt) (hrs : fn.results.toList = rs) (hargs : args.length + 1 ≤ nt) {n : Nat} (hn : n = es.length)
    (h : AW T base nt F js c (stW sz es n args) (EndW T rs sz' es')) : FnW dr P f sz es args (.tup [.ow sz' es']) := by
  subst hn
  refine ⟨hcall, fun w A S sl b vals hI hT0 hA hSA hown hb0 hr => ?_⟩
  have hlen : vals.size = args.length := by simpa using hr.1
  have hloc : ∃ cap, ∀ (κ : Cx), κ.S = A → κ.w = w → κ.gn 1000000 = 1 → κ.φ 1000000 1 = ⟨b, cap, sz, es.length⟩ → InstOk κ (κ.φ 1000000 1) (.rows sz es false) ∧ Rel κ (.row 1000000 1 es.length) sl := by
    obtain ⟨o1, o2⟩ := hown
    rcases o2 with ⟨rfl, rfl, A', rfl⟩ | ⟨g, T', cur, cap, rfl, rfl, hh, hl, hm, hc, hrw⟩
    · refine ⟨0, fun κ k1 k2 k3 k4 => ?_⟩
      rw [k4]
      refine ⟨⟨rfl, o1, Or.inl ⟨rfl, rfl⟩⟩, .row0 A' (by rw [k3]; exact Nat.le_refl _) (by rw [k4]) (by rw [k4]; rfl)⟩
    · refine ⟨cap, fun κ k1 k2 k3 k4 => ?_⟩
      rw [k4]
      refine ⟨⟨rfl, o1, Or.inr ⟨g, T', cur, rfl, rfl, by rw [k2]; exact hh, hl, hm, hc, fun i j e x he hx => ?_⟩⟩, ?_⟩
      · obtain ⟨u, hu, hd⟩ := hrw i j e x he hx
        refine ⟨u, hu, ?_⟩
        rw [k1, k2]
        exact hd.mono hSA fun _ _ => rfl
      · have := Rel.row (κ := κ) (s := 1000000) (g := 1) (b := g) (by rw [k3]; exact Nat.le_refl _) (by rw [k4])
        rw [k4] at this
        exact this
  obtain ⟨cap, hloc⟩ := hloc
  let κ0 : Cx := ⟨fun s g => if s = 1000000 ∧ g = 1 then ⟨b, cap, sz, es.length⟩ else ⟨none, 0, 0, 0⟩, fun s => bif Nat.beq s 1000000 then 1 else 0, A, w⟩
  obtain ⟨hok, hrel⟩ := hloc κ0 rfl rfl rfl (by show (if (1000000 : Nat) = 1000000 ∧ (1 : Nat) = 1 then (⟨b, cap, sz, es.length⟩ : Loc) else ⟨none, 0, 0, 0⟩) = _; rw [if_pos ⟨rfl, rfl⟩])
  have hφ : κ0.φ 1000000 1 = ⟨b, cap, sz, es.length⟩ := by show (if (1000000 : Nat) = 1000000 ∧ (1 : Nat) = 1 then (⟨b, cap, sz, es.length⟩ : Loc) else ⟨none, 0, 0, 0⟩) = _; rw [if_pos ⟨rfl, rfl⟩]
  have only : ∀ s g i, (stW sz es es.length args).m.at_ s g = some i → s = 1000000 ∧ g = 1 ∧ i = .rows sz es false := by
    intro s g i hi
    have hi : (bif Nat.beq s 1000000 && Nat.beq g 1 then some (Inst.rows sz es false) else none) = some i := hi
    cases hq : (Nat.beq s 1000000 && Nat.beq g 1)
    · rw [hq] at hi; cases hi
    · rw [hq] at hi
      rw [Bool.and_eq_true] at hq
      injection hi with hi
      exact ⟨Nat.eq_of_beq_eq_true hq.1, Nat.eq_of_beq_eq_true hq.2, hi.symm⟩
  have hle : (cx0 A w).Le κ0 := ⟨fun _ => Nat.zero_le _, fun s g hg => by
    have hg : g ≤ 0 := hg
    show (if s = 1000000 ∧ g = 1 then (⟨b, cap, sz, es.length⟩ : Loc) else ⟨none, 0, 0, 0⟩) = _
    rw [if_neg (by omega)]
    rfl, fun _ h => h, fun _ _ => rfl⟩
  have hsim : Sim ⟨w, fun c => b = some c, dr, hI, hT0, 0, fun _ => ⟨none, 0, 0, 0⟩⟩ A (stW sz es es.length args).m κ0 := by
    refine ⟨BelowX.refl _ _, rfl, ?_, ?_, ?_, ?_, ?_, ?_, fun c hc => ⟨hA c hc, Or.inl hc⟩, fun c hc => hc, fun i hi => absurd hi (Nat.not_lt_zero i)⟩
    · intro s g i hi
      obtain ⟨rfl, rfl, rfl⟩ := only s g i hi
      exact hok
    · intro s g i hi
      obtain ⟨rfl, rfl, rfl⟩ := only s g i hi
      exact Nat.le_refl _
    · intro s g i c hi hc
      obtain ⟨rfl, rfl, rfl⟩ := only s g i hi
      rw [hφ] at hc
      exact ⟨Or.inr hc, (hb0 c hc).1⟩
    · intro s g i c hi hc _
      obtain ⟨rfl, rfl, rfl⟩ := only s g i hi
      rw [hφ] at hc
      exact (hb0 c hc).2
    · intro s g i c hi hc hrw
      obtain ⟨rfl, rfl, rfl⟩ := only s g i hi
      cases hrw
    · intro s g i s' g' i' c hi hi' _ _ _
      obtain ⟨rfl, rfl, rfl⟩ := only s g i hi
      obtain ⟨rfl, rfl, rfl⟩ := only s' g' i' hi'
      exact ⟨rfl, rfl⟩
  refine calls_of_wp hf hb (wp_mono (AW_sound (w0 := ⟨w, fun c => b = some c, dr, hI, hT0, 0, fun _ => ⟨none, 0, 0, 0⟩⟩) (A := A) hm hT heq hF c _ _ w ⟨stW sz es es.length args, κ0, rfl, hsim, ?_, ?_, rfl, h⟩) ?_)
  · intro t v ht
    have hn : ∀ (l : List AV) (t : Nat), nthA l t = l[t]? := by
      intro l
      induction l with
      | nil => intro t; cases t <;> rfl
      | cons x l ih => intro t; cases t with
        | zero => rfl
        | succ t => simp [nthA, ih]
    have ht : (AV.row 1000000 1 es.length :: args)[t]? = some v := by rw [← hn]; exact ht
    have hall : RelL κ0 (AV.row 1000000 1 es.length :: args) (sl :: vals.toList) := .cons hrel (hr.mono hle)
    obtain ⟨x, hx, hrx⟩ := hall.get ht
    have hlt : t < (#[sl] ++ vals).size := by
      have := (List.getElem?_eq_some_iff.1 ht).1
      simp at this ⊢
      omega
    refine ⟨x, ?_, hrx⟩
    rw [Array.getElem?_append_left hlt]
    have : (#[sl] ++ vals)[t]? = (sl :: vals.toList)[t]? := by
      rw [← Array.getElem?_toList]
      simp
    rw [this]
    exact hx
  · simp [hnt]
    omega
  · have fin : ∀ a' w', Holds ⟨w, fun c => b = some c, dr, hI, hT0, 0, fun _ => ⟨none, 0, 0, 0⟩⟩ A nt (RetW T rs sz' es') a' w' → a'.defers = [] ∧ ∃ v, (results fn a'.tmps).run P w' = .ok v w' ∧ ∃ v', Ending.returned v = Ending.returned v' ∧ BelowX dr (fun c => b = some c) w w' ∧ OwnRes A S w w' sl b v' (.tup [.ow sz' es']) := by
      rintro a' w' ⟨st, κ, rfl, hs, he, hn, hd, hp, hret⟩
      refine ⟨hd, ?_⟩
      obtain ⟨vs, ys, h1, h2, h3⟩ := valL_sound (P := P) hT hs he rs _ hret
      have hrun : (results fn a'.tmps).run P κ.w = .ok (if hsz : ys.toArray.size = 1 then ys.toArray[0] else .tuple ys.toArray) κ.w := by
        have e : results fn a'.tmps = (do let vs ← fn.results.mapM (resR a'.tmps); pure (if h : vs.size = 1 then vs[0] else .tuple vs)) := rfl
        rw [e, Array.mapM_eq_mapM_toList, hrs]
        simp only [Sem.run_bind, Sem.run_map, h1, Result.andThen_ok, Sem.run_pure]
      have one : ∀ (v : AV), vs = [v] → ∃ y, ys = [y] ∧ Rel κ v y ∧ (results fn a'.tmps).run P κ.w = .ok y κ.w := by
        rintro v rfl
        obtain ⟨y, ys', rfl, hy, hys⟩ := h2.cons_inv
        have := hys.nil_inv
        subst this
        exact ⟨y, rfl, hy, hrun⟩
      have done : ∀ y b', (results fn a'.tmps).run P κ.w = .ok y κ.w → OwnAt (fun _ => False) κ.w sz' es' y b' → (∀ c, b' = some c → Start.New ⟨w, fun c => b = some c, dr, hI, hT0, 0, fun _ => ⟨none, 0, 0, 0⟩⟩ c ∧ c < κ.w.heap.size) →
          ∃ v, (results fn a'.tmps).run P κ.w = .ok v κ.w ∧ ∃ v', Ending.returned v = Ending.returned v' ∧ BelowX dr (fun c => b = some c) w κ.w ∧ OwnRes A S w κ.w sl b v' (.tup [.ow sz' es']) := by
        intro y b' hy ho hnew
        refine ⟨y, hy, y, rfl, hs.below, fun _ => False, b', fun c h => h.elim, ho, fun c hc => ?_⟩
        obtain ⟨k1, k2⟩ := hnew c hc
        exact ⟨k1.symm, k2, fun h => h⟩
      split at h3
      · obtain ⟨y, _, hy, hry⟩ := one _ rfl
        subst h3
        cases hy with
        | nl A' => exact done _ none hry ⟨by simp, Or.inl ⟨rfl, rfl, A', rfl⟩⟩ fun c h => by cases h
      · obtain ⟨y, _, hy, hry⟩ := one _ rfl
        obtain ⟨b', k1, k2⟩ := own_end hs h3 hp (Or.inl ⟨hy, rfl⟩)
        exact done y b' hry k1 k2
      · obtain ⟨y, _, hy, hry⟩ := one _ rfl
        obtain ⟨es0, h4, h5⟩ := h3
        obtain ⟨b', k1, k2⟩ := own_end hs h4 hp (Or.inr ⟨hy, h5⟩)
        exact done y b' hry k1 k2
      · exact h3.elim
    intro e a' w' hq
    cases e with
    | normal => exact fin a' w' hq
    | ret => exact fin a' w' hq
    | exit i => obtain ⟨_, _, _, _, _, _, _, h⟩ := hq; exact h.elim
    | goto l => exact hq.elim
    | panic ch => exact hq.elim
    | outgrown => exact hq.elim
end
end Go.Proofs.Ytlgadmholjaljaa
