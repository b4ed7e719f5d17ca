/-
  Layer 7, plain law: a part of a graph (GraphParts).
-/
import Derived.Test.YtlgadmholjaljaaPA
import Derived.Test.YtlgadmholjaljaaH8
namespace Go.Proofs.Ytlgadmholjaljaa
open Go.RowKit Go.Sort
/- a part, closed below -/
theorem part_has' {M : GM} {l : List Int} {x : Int} : mhasT x (partP M l) = true ↔ x ∈ l := by rw [partP_has, List.contains_iff_mem]
theorem part_par (M : GM) {l : List Int} {x : Int} (h : x ∈ l) : par (partP M l) x = par M x := by unfold par; rw [partP_get M l h]
theorem part_lev (M : GM) {l : List Int} {x : Int} (h : x ∈ l) : lev (partP M l) x = lev M x := by unfold lev; rw [partP_get M l h]
structure Cl (M : GM) (l : List Int) : Prop where
  has : ∀ x ∈ l, mhasT x M = true
  cl : ∀ x ∈ l, ∀ q ∈ par M x, q ∈ l
theorem Cl.ok {M : GM} {l : List Int} (hc : Cl M l) (h : OkG M) : OkG (partP M l) := partP_ok h hc.has hc.cl
theorem Cl.sm {M : GM} {l : List Int} (hc : Cl M l) (h : OkG M) (hs : Sm M) : Sm (partP M l) := by
  refine ⟨?_, fun x => ?_⟩
  · have := sub_len (a := (partP M l).map Prod.fst) (b := M.map Prod.fst) (hc.ok h).nd fun x hx => (mhas_iff _ _).1 (hc.has x (part_has'.1 ((mhas_iff _ _).2 hx)))
    rw [List.length_map, List.length_map] at this
    have := hs.len
    omega
  · cases hx : mhasT x (partP M l)
    · rw [par_no hx]; simp
    · rw [part_par M (part_has'.1 hx)]
      exact hs.par x
theorem Cl.rch {M : GM} {l : List Int} (hc : Cl M l) (h : OkG M) {S : List Int} (hS : ∀ x ∈ S, mhasT x M = true → x ∈ l) (y : Int) : Rch (partP M l) S y ↔ Rch M S y := by
  have hin : ∀ y, Rch M S y → y ∈ l := fun y hr => by
    induction hr with
    | base hi hm => exact hS _ hi hm
    | step _ hx ih => exact hc.cl _ ih _ hx
  constructor
  · intro hr
    induction hr with
    | base hi hm => exact .base hi (hc.has _ (part_has'.1 hm))
    | step hr hx ih => exact .step ih (by rw [part_par M (part_has'.1 (hr.has (hc.ok h)))] at hx; exact hx)
  · intro hr
    induction hr with
    | base hi hm => exact .base hi (part_has'.2 (hS _ hi hm))
    | step hr hx ih => exact .step ih (by rw [part_par M (hin _ hr)]; exact hx)
theorem Cl.past {M : GM} {l : List Int} (hc : Cl M l) (h : OkG M) (hs : Sm M) {x : Int} (hx : x ∈ l) : past (partP M l) x = past M x := by
  refine asc_ext (past_asc (hc.ok h) (hc.sm h hs) x) (past_asc h hs x) fun y => ?_
  rw [past_mem (hc.ok h) (hc.sm h hs), past_mem h hs, part_par M hx]
  exact hc.rch h (fun z hz _ => hc.cl x hx z hz) y
theorem down_cl {M : GM} (h : OkG M) (hs : Sm M) {ids : List Int} (hi : ids.length ≤ 10000) : Cl M (down M ids) := ⟨fun x hx => ((down_mem h hs hi x).1 hx).has h, down_closed h hs hi⟩
theorem rch_set {M : GM} (h : OkG M) (S : List Int) (y : Int) : Rch M S y ↔ (y ∈ S ∧ mhasT y M = true) ∨ ∃ q ∈ S, Rch M (par M q) y := by
  constructor
  · intro hr
    induction hr with
    | base hi hm => exact Or.inl ⟨hi, hm⟩
    | step _ hx ih =>
      rename_i a b _
      right
      rcases ih with ih | ⟨q, hq, ih⟩
      · exact ⟨a, ih.1, .base hx (par_lt h hx).2.1⟩
      · exact ⟨q, hq, .step ih hx⟩
  · rintro (⟨hi, hm⟩ | ⟨q, hq, hr⟩)
    · exact .base hi hm
    · induction hr with
      | base hi _ => exact .step (.base hq (par_lt h hi).1) hi
      | step _ hx ih => exact .step ih hx
noncomputable def inS (M : GM) (S : List Int) (y : Int) : Bool := S.contains y || S.any fun q => (past M q).contains y
theorem inS_iff {M : GM} (h : OkG M) (hs : Sm M) {S : List Int} (hS : S.length ≤ 10000) {y : Int} (hy : mhasT y M = true) : (down M S).contains y = inS M S y := by
  apply bool_ext
  unfold inS
  rw [List.contains_iff_mem, down_mem h hs hS, rch_set h, Bool.or_eq_true, List.contains_iff_mem, List.any_eq_true]
  refine or_congr ⟨fun h => h.1, fun h => ⟨h, hy⟩⟩ ⟨fun ⟨q, h1, h2⟩ => ⟨q, h1, ?_⟩, fun ⟨q, h1, h2⟩ => ⟨q, h1, ?_⟩⟩
  · rw [List.contains_iff_mem, past_mem h hs]; exact h2
  · rw [List.contains_iff_mem, past_mem h hs] at h2; exact h2
theorem parts_inner {M : GM} (h : OkG M) (hs : Sm M) {ids S : List Int} (hS : S.length ≤ 1000) {j : Nat} (hj : j < ids.length) (n : Int) (b : Bool) :
    loopF (law07_GraphParts_L1 S (n, (j : Int)) ids ⟨M⟩) (b, (0 : Int)) = some (.inl (b || S.any fun q => (past M q).contains (ids.getD j 0))) := by
  refine loopF_inv (body := law07_GraphParts_L1 S (n, (j : Int)) ids ⟨M⟩) S.length (fun k s => s = (b || (S.take k).any (fun q => (past M q).contains (ids.getD j 0)), (k : Int))) (fun r => r = some (.inl (b || S.any fun q => (past M q).contains (ids.getD j 0)))) ?_ ?_ (by simp)
  · rintro k _ hk rfl
    left
    have c0 : decide ((k : Int) < ((S.length : Nat) : Int)) = true := decide_eq_true (by omega)
    refine ⟨_, ?_, rfl⟩
    rw [any_succ _ _ hk, ← Bool.or_assoc]
    unfold law07_GraphParts_L1
    simp only [c0, cond_true, chk_i hj, chkO_true]
    cases hb : b || (S.take k).any (fun q => (past M q).contains (ids.getD j 0))
    · simp only [cond_false]
      rw [getI_in 0 hj, bind_s, getI_in 0 hk, bind_s, before_g h hs, bind_s, wrap64 (by omega) (by omega)]
      rfl
    · simp only [cond_true]
      rw [wrap64 (by omega) (by omega)]
      rfl
  · rintro _ rfl
    refine ⟨_, ?_, rfl⟩
    unfold law07_GraphParts_L1
    simp only [Int.lt_irrefl, decide_false, cond_false, List.take_length]
theorem filter_succ (l : List Int) (p : Int → Bool) {j : Nat} (h : j < l.length) : ((l.take (j + 1)).filter p).length = ((l.take j).filter p).length + bif p (l.getD j 0) then 1 else 0 := by
  rw [filter_take_succ l p j h, List.length_append]
  cases p (l.getD j 0) <;> rfl
theorem parts_middle {M : GM} (h : OkG M) (hs : Sm M) {ids S : List Int} (hl : ids.length ≤ 1000) (hm : ∀ x, x ∈ ids ↔ mhasT x M = true) (hS : S.length ≤ 1000) :
    loopF (law07_GraphParts_L2 ids S ⟨M⟩ ⟨partP M (down M S)⟩) ((0 : Int), (0 : Int)) = some (.inl ((ids.filter (inS M S)).length : Int)) := by
  have hc : Cl M (down M S) := down_cl h hs (by omega)
  have hR := hc.ok h
  have sR := hc.sm h hs
  refine loopF_inv (body := law07_GraphParts_L2 ids S ⟨M⟩ ⟨partP M (down M S)⟩) ids.length (fun j s => s = ((((ids.take j).filter (inS M S)).length : Int), (j : Int))) (fun r => r = some (.inl ((ids.filter (inS M S)).length : Int))) ?_ ?_ rfl
  · rintro j _ hj rfl
    left
    have c0 : decide ((j : Int) < ((ids.length : Nat) : Int)) = true := decide_eq_true (by omega)
    have hgj := getI_in 0 hj
    have hmj := getD_mem hj
    have hcnt : ((ids.take j).filter (inS M S)).length ≤ 1000 := by
      have := List.length_filter_le (inS M S) (ids.take j)
      rw [List.length_take] at this
      omega
    have hin := parts_inner h hs (ids := ids) (S := S) hS hj
    refine ⟨_, ?_, rfl⟩
    rw [filter_succ _ _ hj]
    generalize ((ids.take j).filter (inS M S)).length = n at hin hcnt
    generalize hy : ids.getD j 0 = y at hgj hmj hin
    have hhy := (hm y).1 hmj
    have hhas : mhasT y (partP M (down M S)) = inS M S y := by rw [partP_has, inS_iff h hs (by omega) hhy]
    unfold law07_GraphParts_L2
    simp only [c0, cond_true, nn, Bool.and_self, chkO_true]
    rw [hgj, bind_s, has_eq _ _ (by omega), bind_s, hin, seqF_l]
    have e0 : (S.contains y || S.any fun q => (past M q).contains y) = inS M S y := rfl
    rw [e0]
    simp only [bind_s, has_g, hhas, beq_self_eq_true, Bool.not_true, cond_false]
    cases hb : inS M S y
    · simp only [cond_false, seqF_l]
      rw [wrap64 (by omega) (by omega)]
      rfl
    · have hyd : y ∈ down M S := by
        rw [← List.contains_iff_mem, inS_iff h hs (by omega) hhy]; exact hb
      have e1 : levO (partP M (down M S)) y = levO M y := by
        rw [levO_in (part_has'.2 hyd), levO_in hhy, part_lev M hyd]
      have hpl := past_len h hs y
      simp only [cond_true, seqF_l]
      rw [level_g, bind_s, level_g, bind_s, e1, bne_self_eq_false, cond_false, past_g hR sR, bind_s, past_g h hs, bind_s, hc.past h hs hyd, same_eq _ _ (by omega), bind_s, beq_self_t]
      simp only [Bool.not_true, cond_false, seqF_l]
      rw [wrap64 (by omega) (by omega), wrap64 (by omega) (by omega)]
      rfl
  · rintro _ rfl
    refine ⟨_, ?_, rfl⟩
    unfold law07_GraphParts_L2
    simp only [Int.lt_irrefl, decide_false, cond_false, List.take_length]
def api_Node.Q (x : api_Node) : Prop := (IntKind.i64.min ≤ x.Id ∧ x.Id ≤ IntKind.i64.max) ∧ (x.Parents.length ≤ maxLen ∧ ∀ u1 ∈ x.Parents, (IntKind.i64.min ≤ u1 ∧ u1 ≤ IntKind.i64.max))
theorem law07_GraphParts_true (a0 : List api_Node) (_w0 : (a0.length ≤ maxLen ∧ ∀ u2 ∈ a0, (api_Node.Q u2))) (a1 : List Int) (_w1 : (a1.length ≤ maxLen ∧ ∀ u3 ∈ a1, (IntKind.i64.min ≤ u3 ∧ u3 ≤ IntKind.i64.max))) (a2 : api_Node) (_w2 : (api_Node.Q a2)) : law07_GraphParts a0 a1 a2 = some true := by
  unfold law07_GraphParts
  rw [small_true, bind_s, show ref07_Few a0 (20 : Int) = some ((a0.take 21).all (fun x => decide (x.Parents.length ≤ 30)) && decide (a0.length ≤ 20)) from few_eq a0 20 (by decide), bind_s]
  cases hf : (a0.take 21).all (fun x => decide (x.Parents.length ≤ 30)) && decide (a0.length ≤ 20)
  · rfl
  obtain ⟨hl, hp⟩ := few_spec (n := 20) hf
  simp only [Bool.not_true, cond_false]
  by_cases hS : a1.length ≤ 20
  · rw [decide_eq_false (by omega), cond_false]
    by_cases hm : a2.Parents.length ≤ 30
    · rw [decide_eq_false (by omega), cond_false]
      obtain ⟨M, k1, k2⟩ := known_eq (l := a0) (by omega) fun n hn => by have := hp n hn; omega
      have hs : Sm M := k2.toFrom.sm (by omega) fun n hn => by have := hp n hn; omega
      obtain ⟨ids, b2, b3, b4, b5, b6⟩ := all_from (l := a0) (by omega) k2.toFrom
      have h := k2.ok
      have hc : Cl M (down M a1) := down_cl h hs (by omega)
      have hR := hc.ok h
      have sR := hc.sm h hs
      rw [k1, bind_s, b2, bind_s, restrict_g h hs (by omega), bind_s, copy_g, bind_s, parts_middle h hs (by omega) b4 (by omega), seqF_l]
      have hc2 : Cl (partP M (down M a1)) (down (partP M (down M a1)) a1) := down_cl hR sR (by omega)
      rw [restrict_g hR sR (by omega), bind_s, len_g, bind_s]
      have hlen : (partP M (down M a1)).length = (ids.filter (inS M a1)).length := by
        have hmem : ∀ x, x ∈ (partP M (down M a1)).map Prod.fst ↔ x ∈ ids.filter (inS M a1) := fun x => by
          rw [← mhas_iff, part_has', List.mem_filter, b4]
          constructor
          · intro hx
            have hhx := hc.has x hx
            refine ⟨hhx, ?_⟩
            rw [← inS_iff h hs (by omega) hhx, List.contains_iff_mem]
            exact hx
          · rintro ⟨hhx, hx⟩
            rwa [← inS_iff h hs (by omega) hhx, List.contains_iff_mem] at hx
        have a1' := sub_len hR.nd fun x hx => (hmem x).1 hx
        have a2' := sub_len (b3.filter (inS M a1)) fun x hx => (hmem x).2 hx
        rw [List.length_map] at a1' a2'
        omega
      have hsame : sameB (partP (partP M (down M a1)) (down (partP M (down M a1)) a1)) (partP M (down M a1)) = true := by
        have hd : ∀ x, x ∈ down (partP M (down M a1)) a1 ↔ x ∈ down M a1 := fun x => by
          rw [down_mem hR sR (by omega), down_mem h hs (by omega)]
          exact hc.rch h (fun z hz hzm => (down_mem h hs (by omega) z).2 (.base hz hzm)) x
        refine (same_iff (hc2.ok hR) hR).2 ⟨fun x => bool_ext (by rw [part_has', part_has', hd]), fun x => ?_⟩
        cases hx : mhasT x (partP M (down M a1))
        · rw [par_no hx, par_no ?_]
          rw [← Bool.not_eq_true, part_has', hd, ← part_has' (M := M), hx]
          simp
        · rw [part_par _ ((hd x).2 (part_has'.1 hx))]
      rw [hlen, bne_self_eq_false, cond_false, same_g (hc2.ok hR), bind_s, hsame, gadd_eq hR _ (by omega), bind_s]
      simp only [cond_true]
      rw [same_g h, bind_s, (Eqv.refl M).same h h]
    · rw [decide_eq_true (by omega), cond_true]
  · rw [decide_eq_true (by omega), cond_true]
end Go.Proofs.Ytlgadmholjaljaa
