/-
  Layer 7, plain law: nodes in order of their levels (GraphSorted).
-/
import Derived.Test.YtlgadmholjaljaaPA
import Derived.Test.YtlgadmholjaljaaH5
namespace Go.Proofs.Ytlgadmholjaljaa
open Go.RowKit Go.Sort
theorem lasc_get {M : GM} {l : List Int} (h : LAsc M l) {i j : Nat} (hij : i < j) (hj : j < l.length) : ltG M (l.getD i 0) (l.getD j 0) = true := by
  rw [List.getD_eq_getElem?_getD, List.getD_eq_getElem?_getD, List.getElem?_eq_getElem hj, List.getElem?_eq_getElem (by omega : i < l.length)]
  exact List.pairwise_iff_getElem.1 h i j (by omega) hj hij
theorem all_succ (l : List Int) (p : Int → Bool) {k : Nat} (h : k < l.length) : (l.take (k + 1)).all p = ((l.take k).all p && p (l.getD k 0)) := by
  rw [take_succ_getD _ 0 h, List.all_append]
  simp
theorem sorted_inner {M : GM} (h : OkG M) (hs : Sm M) {ys : List Int} (hl : ys.length ≤ 10000) (hy : LAsc M ys) (hm : ∀ x ∈ ys, mhasT x M = true) {i : Nat} (hi : i < ys.length) (out : List Int) :
    loopF (law07_GraphSorted_L1 ys ⟨M⟩ ((i : Int), out)) (true, (0 : Int)) = some (.inl (ys.all fun z => !(past M z).contains (ys.getD i 0))) := by
  refine loopF_inv (body := law07_GraphSorted_L1 ys ⟨M⟩ ((i : Int), out)) ys.length (fun k s => s = ((ys.take k).all (fun z => !(past M z).contains (ys.getD i 0)), (k : Int))) (fun r => r = some (.inl (ys.all fun z => !(past M z).contains (ys.getD i 0)))) ?_ ?_ rfl
  · rintro k _ hk rfl
    left
    have c0 : decide ((k : Int) < ((ys.length : Nat) : Int)) = true := decide_eq_true (by omega)
    have c1 : decide ((i : Int) < ((ys.length : Nat) : Int)) = true := decide_eq_true (by omega)
    refine ⟨_, ?_, rfl⟩
    rw [all_succ _ _ hk]
    have hord : k < i → ltG M (ys.getD k 0) (ys.getD i 0) = true := fun h => lasc_get hy h hi
    have hgi := getI_in 0 hi
    have hgk := getI_in 0 hk
    have hmi := hm _ (getD_mem hi)
    have hmk := hm _ (getD_mem hk)
    generalize ((ys.take k).all fun z => !(past M z).contains (ys.getD i 0)) = b
    generalize ys.getD i 0 = x at hgi hord hmi ⊢
    generalize ys.getD k 0 = z at hgk hord hmk ⊢
    have hno : ltG M z x = true → (past M z).contains x = false := fun h1 => by
      rw [← Bool.not_eq_true, List.contains_iff_mem, past_mem h hs]
      intro hr
      have := rch_lt h hr
      rw [ltG_iff] at h1
      omega
    have hlt : (bif decide (lev M z < lev M x) then true else bif lev M z == lev M x then decide (z < x) else false) = ltG M z x := by
      unfold ltG
      cases decide (lev M z < lev M x) <;> cases lev M z == lev M x <;> rfl
    unfold law07_GraphSorted_L1
    simp only [c0, c1, cond_true, nn, Bool.and_self, chkO_true]
    rw [hgk, bind_s, level_g, bind_s, hgi, bind_s, level_g, bind_s, levO_in hmi, levO_in hmk]
    have e1 : (bif decide (lev M z < lev M x) then some (Sum.inl true) else bif lev M z == lev M x then some (Sum.inl (decide (z < x))) else some (Sum.inl false) : Option (Bool ⊕ ((Bool × Int) ⊕ (Bool ⊕ (List Int ⊕ ((Int × List Int) ⊕ (List Int ⊕ Bool))))))) = some (Sum.inl (ltG M z x)) := by
      rw [← hlt]
      cases decide (lev M z < lev M x) <;> cases lev M z == lev M x <;> rfl
    rw [e1, seqF_l]
    simp only [bind_s, before_g h hs]
    rw [wrap64 (n := (k : Int) + 1) (by omega) (by omega)]
    by_cases hki : k < i
    · have h1 := hord hki
      have c2 : decide ((k : Int) < (i : Int)) = true := decide_eq_true (by omega)
      rw [c2, h1, hno h1]
      simp only [cond_true, Bool.not_true, cond_false, seqF_l]
      cases b <;> rfl
    · have c2 : decide ((k : Int) < (i : Int)) = false := decide_eq_false (by omega)
      rw [c2]
      simp only [cond_false, seqF_l]
      cases b <;> rfl
  · rintro _ rfl
    refine ⟨_, ?_, rfl⟩
    unfold law07_GraphSorted_L1
    simp only [Int.lt_irrefl, decide_false, cond_false, List.take_length]
theorem heads_iff {M : GM} (h : OkG M) (hs : Sm M) {ys : List Int} (hm : ∀ x, x ∈ ys ↔ mhasT x M = true) {x : Int} (hx : mhasT x M = true) : (headsP M).contains x = ys.all fun z => !(past M z).contains x := by
  apply bool_ext
  rw [List.contains_iff_mem, headsP_mem h, List.all_eq_true]
  constructor
  · rintro ⟨_, h2⟩ z hz
    rw [Bool.not_eq_true', ← Bool.not_eq_true, List.contains_iff_mem, past_mem h hs]
    intro hr
    cases hr with
    | base hi _ => exact h2 z ((hm z).1 hz) hi
    | step hr hq => exact h2 _ (hr.has h) hq
  · intro h2
    refine ⟨hx, fun y hy hq => ?_⟩
    have := h2 y ((hm y).2 hy)
    rw [Bool.not_eq_true', ← Bool.not_eq_true, List.contains_iff_mem, past_mem h hs] at this
    exact this (.base hq hx)
theorem sorted_middle {M : GM} (h : OkG M) (hs : Sm M) {ys ids S : List Int} (hl : ys.length ≤ 10000) (hy : LAsc M ys) (hm : ∀ x, x ∈ ys ↔ mhasT x M = true) (hi' : ids.length ≤ 10000) (hids : ∀ x, x ∈ ids ↔ mhasT x M = true) (hS : S.length ≤ 1000) (hh : (headsP M).length ≤ 1000000) :
    loopF (law07_GraphSorted_L2 ys ⟨M⟩ ids (headsP M) S) ((0 : Int), []) = some (.inl (ys.filter fun x => S.contains x)) := by
  refine loopF_inv (body := law07_GraphSorted_L2 ys ⟨M⟩ ids (headsP M) S) ys.length (fun k s => s = ((k : Int), (ys.take k).filter fun x => S.contains x)) (fun r => r = some (.inl (ys.filter fun x => S.contains x))) ?_ ?_ rfl
  · rintro i _ hi rfl
    left
    have c0 : decide ((i : Int) < ((ys.length : Nat) : Int)) = true := decide_eq_true (by omega)
    have hlen : ((ys.take i).filter fun x => S.contains x).length ≤ 10000 := by
      have := List.length_filter_le (fun x => S.contains x) (ys.take i)
      rw [List.length_take] at this
      omega
    refine ⟨_, ?_, rfl⟩
    have hin := sorted_inner h hs hl hy (fun x hx => (hm x).1 hx) hi
    have hgi := getI_in 0 hi
    have hmi := (hm _).1 (getD_mem hi)
    have hfs : ((ys.take (i + 1)).filter fun x => S.contains x) = (ys.take i).filter (fun x => S.contains x) ++ bif S.contains (ys.getD i 0) then [ys.getD i 0] else [] := filter_take_succ ys (fun x => S.contains x) i hi
    rw [hfs]
    generalize ((ys.take i).filter fun x => S.contains x) = out at hlen ⊢
    have hin := hin out
    generalize ys.getD i 0 = x at hgi hmi hin ⊢
    have e1 : ids.contains x = true := List.contains_iff_mem.2 ((hids x).2 hmi)
    unfold law07_GraphSorted_L2
    simp only [c0, cond_true, nn, Bool.and_self, chkO_true]
    rw [hin, seqF_l, hgi]
    simp only [bind_s]
    rw [has_eq _ _ (by omega), bind_s, e1]
    simp only [Bool.not_true, cond_false]
    rw [has_eq _ _ hh, bind_s, heads_iff h hs hm hmi, beq_self_eq_true]
    simp only [Bool.not_true, cond_false]
    rw [has_eq _ _ (by omega), bind_s, wrap64 (by omega) (by omega)]
    cases S.contains x
    · simp only [cond_false, seqF_l, List.append_nil]
      rfl
    · simp only [cond_true]
      rw [chk_true (decide_eq_true (by simp; omega)), seqF_l]
      rfl
  · rintro _ rfl
    refine ⟨_, ?_, rfl⟩
    unfold law07_GraphSorted_L2
    simp only [Int.lt_irrefl, decide_false, cond_false, List.take_length]
def api_Node.Q (x : api_Node) : Prop := (IntKind.i64.min ≤ x.Id ∧ x.Id ≤ IntKind.i64.max) ∧ (x.Parents.length ≤ maxLen ∧ ∀ u1 ∈ x.Parents, (IntKind.i64.min ≤ u1 ∧ u1 ≤ IntKind.i64.max))
theorem law07_GraphSorted_true (a0 : List api_Node) (_w0 : (a0.length ≤ maxLen ∧ ∀ u2 ∈ a0, (api_Node.Q u2))) (a1 : List Int) (_w1 : (a1.length ≤ maxLen ∧ ∀ u3 ∈ a1, (IntKind.i64.min ≤ u3 ∧ u3 ≤ IntKind.i64.max))) : law07_GraphSorted a0 a1 = some true := by
  unfold law07_GraphSorted
  rw [small_true, bind_s, show ref07_Few a0 (20 : Int) = some ((a0.take 21).all (fun x => decide (x.Parents.length ≤ 30)) && decide (a0.length ≤ 20)) from few_eq a0 20 (by decide), bind_s]
  cases hf : (a0.take 21).all (fun x => decide (x.Parents.length ≤ 30)) && decide (a0.length ≤ 20)
  · rfl
  obtain ⟨hl, hp⟩ := few_spec (n := 20) hf
  simp only [Bool.not_true, cond_false]
  by_cases hS : a1.length ≤ 20
  · rw [decide_eq_false (by omega), cond_false]
    obtain ⟨M, k1, k2⟩ := known_eq (l := a0) (by omega) fun n hn => by have := hp n hn; omega
    have hs : Sm M := k2.toFrom.sm (by omega) fun n hn => by have := hp n hn; omega
    obtain ⟨ids, b2, b3, b4, b5, b6⟩ := all_from (l := a0) (by omega) k2.toFrom
    have h := k2.ok
    rw [k1, bind_s, b2, bind_s, chk_true (decide_eq_true (by omega)), chk_true (decide_eq_true (by simp; omega)), List.nil_append]
    have hl2 : (ids ++ ids).length ≤ 100000 := by rw [List.length_append]; omega
    rw [sortedP_eq h hl2, bind_s]
    have y1 := sortedP_asc h hl2
    have y2 : ∀ x, x ∈ sortedP M (ids ++ ids) ↔ mhasT x M = true := fun x => by
      rw [sortedP_mem h hl2, List.mem_append, or_self, b4, and_self]
    have y3 : (sortedP M (ids ++ ids)).length = ids.length := by
      have a1' := sub_len (lasc_nodup y1) fun x hx => (b4 x).2 ((y2 x).1 hx)
      have a2' := sub_len b3 fun x hx => (y2 x).2 ((b4 x).1 hx)
      omega
    have hh : (headsP M).length ≤ 1000000 := by
      have := sub_len (a := headsP M) (b := M.map Prod.fst) ((headsP_asc h).imp fun h => by omega) fun y hy => (mhas_iff _ _).1 ((headsP_mem h y).1 hy).1
      rw [List.length_map] at this
      omega
    rw [y3, bne_self_eq_false, cond_false, heads_g h hs, bind_s, sorted_middle h hs (by omega) y1 y2 (by omega) b4 (by omega) hh, seqF_l]
    simp only [cond_true]
    have e : sortedP M a1 = (sortedP M (ids ++ ids)).filter fun x => a1.contains x := by
      refine lasc_ext (M := M) (sortedP_asc h (by omega)) (List.Pairwise.filter _ y1) fun x => ?_
      rw [sortedP_mem h (by omega), List.mem_filter, y2, List.contains_iff_mem]
      exact And.comm
    have hlen : (sortedP M a1).length ≤ 1000000 := by
      have := sub_len (a := sortedP M a1) (b := a1) (lasc_nodup (sortedP_asc h (by omega))) fun y hy => ((sortedP_mem h (by omega) y).1 hy).1
      omega
    rw [sortedP_eq h (by omega), bind_s, same_eq _ _ hlen, bind_s, e, beq_self_t]
  · rw [decide_eq_true (by omega), cond_true]
end Go.Proofs.Ytlgadmholjaljaa
