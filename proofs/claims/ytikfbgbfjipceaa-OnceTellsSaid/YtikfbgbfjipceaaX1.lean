/-
  The contract of Take, in the words of the evaluation on plain data.
-/
import Derived.Test.YtikfbgbfjipceaaG1
import Derived.Test.YtikfbgbfjipceaaC1
namespace Go.Proofs.Ytikfbgbfjipceaa
open Go.RowKit

def rgOf (x : Arr2_Int) : Rg := (x.a0, x.a1)
def ofRg (x : Rg) : Arr2_Int := ⟨x.1, x.2⟩
theorem rgOf_ofRg (l : List Rg) : (l.map ofRg).map rgOf = l := by
  induction l with
  | nil => rfl
  | cons a l ih => simp only [List.map_cons, ih]; rfl
theorem ofRg_rgOf (l : List Arr2_Int) : (l.map rgOf).map ofRg = l := by
  induction l with
  | nil => rfl
  | cons a l ih => simp only [List.map_cons, ih]; rfl
theorem relD_v {S : Nat → Prop} {w : World} {x v : Value} (h : RelD S w (.v x) v) : v = x := by cases h; rfl
/-- a slice of pairs that reads as data reads as a list -/
theorem fz_sl {S : Nat → Prop} {w : World} {l : List Arr2_Int} {v : Value} (h : RelD S w (.fz (l.map Arr2_Int.enc)) v) (hS : ∀ b, S b → b < w.heap.size) :
    ∃ A c, v = .slice A l.length c ∧ Sl w A l.length 2 ((l.map rgOf).flatMap pairC) ∧ (A = none → l.length = 0 ∧ c = 0) := by
  have hlen : ((l.map rgOf).flatMap pairC).length = l.length * 2 := by rw [pair_len, List.length_map]
  generalize hes : l.map Arr2_Int.enc = es at h
  cases h with
  | fz0 A c hA =>
    have : l = [] := by simpa using hes
    subst this
    exact ⟨A, c, rfl, ⟨hlen, fun h => by simp at h⟩, fun h => ⟨rfl, hA h⟩⟩
  | fz _ b o sz c vs hs hb hcap hc hr =>
    subst hes
    refine ⟨some ⟨b, o, none⟩, c, by simp, ⟨hlen, fun hn => ⟨b, o, rfl, hS b hb, fun j u hu => ?_⟩⟩, fun h => by cases h⟩
    have hsz : sz = 2 := by
      cases l with
      | nil => simp at hn
      | cons a l => exact (hs (Arr2_Int.enc a) (by simp)).symm
    subst hsz
    have hj : j < l.length * 2 := by rw [← hlen]; exact (List.getElem?_eq_some_iff.1 hu).1
    rw [hc j (by simpa using hj)]
    have hi : j / 2 < l.length := by omega
    have he : j = j / 2 * 2 + j % 2 := by omega
    have hk : j % 2 < 2 := Nat.mod_lt _ (by omega)
    have hg := flat_get pairC 2 (fun _ => rfl) (l.map rgOf) (j / 2) (j % 2) (by simpa using hi) hk
    rw [← he, hu] at hg
    have hx : (Arr2_Int.enc l[j / 2])[j % 2]? = some (.v u) := by
      rcases Nat.lt_or_ge (j % 2) 1 with h0 | h1
      · have h0 : j % 2 = 0 := by omega
        rw [h0] at hg ⊢
        simpa [rgOf, pairC, Arr2_Int.enc] using hg.symm
      · have h1 : j % 2 = 1 := by omega
        rw [h1] at hg ⊢
        simpa [rgOf, pairC, Arr2_Int.enc] using hg.symm
    have := relD_v (hr (j / 2) (j % 2) (Arr2_Int.enc l[j / 2]) (.v u) (by simp [hi]) hx)
    rw [← he] at this
    rw [this]
theorem sl_fz {S : Nat → Prop} {w : World} {l : List Rg} {A : Option Addr} {c : Nat} (h : Sl w A l.length 2 (l.flatMap pairC)) (hA : A = none → c = 0) (hc : l.length ≤ c) (hS : ∀ b o, A = some ⟨b, o, none⟩ → b < w.heap.size → S b) :
    RelD S w (.fz ((l.map ofRg).map Arr2_Int.enc)) (.slice A l.length c) := by
  cases l with
  | nil => exact .fz0 A c hA
  | cons a l =>
    obtain ⟨b, o, rfl, hlt, hcell⟩ := h.2 (by simp)
    have hlen := h.1
    have := RelD.fz (S := S) (w := w) (((a :: l).map ofRg).map Arr2_Int.enc) b o 2 c (fun j => ((a :: l).flatMap pairC).getD j undef) (fun e he => by
        obtain ⟨x, _, rfl⟩ := List.mem_map.1 he
        rfl) (hS b o rfl hlt) (by simpa using hc) (fun j hj => by
        have hj : j < ((a :: l).flatMap pairC).length := by rw [hlen]; simpa using hj
        rw [hcell j _ (List.getElem?_eq_getElem hj)]
        show _ = some (((a :: l).flatMap pairC).getD j undef)
        rw [List.getD_eq_getElem?_getD, List.getElem?_eq_getElem hj]
        rfl) (fun i j e x he hx => by
        obtain ⟨y, hy, rfl⟩ : ∃ y, (a :: l)[i]? = some y ∧ Arr2_Int.enc (ofRg y) = e := by
          rw [List.getElem?_map, List.getElem?_map] at he
          cases hq : (a :: l)[i]? with
          | none => rw [hq] at he; cases he
          | some y => rw [hq] at he; injection he with he; exact ⟨y, rfl, he⟩
        obtain ⟨hi, hy⟩ := List.getElem?_eq_some_iff.1 hy
        have hj : j < 2 := (List.getElem?_eq_some_iff.1 hx).1
        have hg := flat_get pairC 2 (fun _ => rfl) (a :: l) i j hi hj
        rw [hy] at hg
        show RelD S w x (((a :: l).flatMap pairC).getD (i * 2 + j) undef)
        rw [List.getD_eq_getElem?_getD, hg]
        rcases Nat.lt_or_ge j 1 with h0 | h1
        · have h0 : j = 0 := by omega
          subst h0
          simp only [Arr2_Int.enc, List.getElem?_cons_zero, Option.some.injEq] at hx
          subst hx
          exact .v _ rfl
        · have h1 : j = 1 := by omega
          subst h1
          simp only [Arr2_Int.enc, List.getElem?_cons_succ, List.getElem?_cons_zero, Option.some.injEq] at hx
          subst hx
          exact .v _ rfl)
    simpa using this
def once_Take (l : once_List) (n most : Int) : Option (once_List × Bool) :=
  (chkO (decide (l.Ranges.length ≤ 100000))).bind fun _ =>
  some (⟨(takeP l.Low (l.Ranges.map rgOf) n most).low, (takeP l.Low (l.Ranges.map rgOf) n most).rs.map ofRg⟩, (takeP l.Low (l.Ranges.map rgOf) n most).ok)
theorem cf8 (args : Array Value) (w : World) : (callFunc 8 args).run Try.prog w = .ok (.enter 8 args) w := by simp [go_sem]
theorem once_Take_fn {l : once_List} {n most : Int} {r : once_List × Bool} (h : once_Take l n most = some r) :
    Fn Try.prog 8 [.agg [.d (.v (.int .i64 l.Low)), .d (.fz (List.map Arr2_Int.enc l.Ranges))], .d (.v (.int .i64 n)), .d (.v (.int .i64 most))] (.tup [.agg [.d (.v (.int .i64 r.1.Low)), .d (.fz (List.map Arr2_Int.enc r.1.Ranges))], .d (.v (.bool r.2))]) := by
  unfold once_Take at h
  cases hk : decide (l.Ranges.length ≤ 100000) with
  | false => rw [hk] at h; cases h
  | true =>
    rw [hk] at h
    replace h : some _ = some r := h
    injection h with h
    subst h
    have hk : l.Ranges.length ≤ 100000 := by simpa using hk
    refine ⟨cf8, fun w A vals hA hr => ?_⟩
    obtain ⟨v1, vs1, e1, h1, hr⟩ := hr.cons_inv
    obtain ⟨v2, vs2, e2, h2, hr⟩ := hr.cons_inv
    obtain ⟨v3, vs3, e3, h3, hr⟩ := hr.cons_inv
    have e4 := hr.nil_inv
    subst e4 e3 e2
    have hv : vals = #[v1, v2, v3] := Array.ext' (by simpa using e1)
    subst hv
    cases h2 with
    | d h2 =>
    cases h3 with
    | d h3 =>
    rw [relD_v h2, relD_v h3]
    clear h2 h3 e1
    cases h1 with
    | @agg cs vs hl h1 =>
    have g0 : ∃ a b, vs = #[a, b] := by
      obtain ⟨l⟩ := vs
      match l, hl with
      | [a, b], _ => exact ⟨a, b, rfl⟩
    obtain ⟨a, b, rfl⟩ := g0
    have ha := h1 0 _ a rfl rfl
    have hb := h1 1 _ b rfl rfl
    cases ha with
    | d ha =>
    cases hb with
    | d hb =>
    rw [relD_v ha]
    obtain ⟨B, c, rfl, hs, hn⟩ := fz_sl hb hA
    refine (take_new l.Low n most B l.Ranges.length c (l.Ranges.map rgOf) w hs hk hn).mono ?_
    rintro e w' ⟨A', c', rfl, hs', hbl, hnl, hfr, hcc⟩
    refine ⟨_, fun b => b < w'.heap.size ∧ (A b ∨ w.heap.size ≤ b), [none, none] ++ [none], rfl, ⟨hbl, fun d => d.elim⟩, fun b h => h, ?_, ?_, ?_⟩
    · refine ⟨_, rfl, _, _, _, _, rfl, rfl, ⟨_, rfl, _, _, _, _, rfl, rfl, ⟨.v _ rfl, rfl⟩, _, _, _, _, rfl, rfl, ⟨?_, rfl⟩, rfl, rfl⟩, _, _, _, _, rfl, rfl, ⟨_, rfl, .v _ rfl, rfl⟩, rfl, rfl⟩
      exact sl_fz hs' (fun h => (hnl h).2) hcc fun b o hb hlt => ⟨hlt, Or.inr (hfr b o hb)⟩
    · simp [Apart]
    · intro b hb
      simp at hb
end Go.Proofs.Ytikfbgbfjipceaa
