/-
  Layer 7, plain law: the past of a node, its parents, its level (GraphPast).
-/
import Derived.Test.YtlgadmholjaljaaPA
import Derived.Test.YtlgadmholjaljaaH6
namespace Go.Proofs.Ytlgadmholjaljaa
open Go.RowKit Go.Sort
theorem past_inner {M : GM} (h : OkG M) (hs : Sm M) {ids P : List Int} (hP : P.length ≤ 1000) {j : Nat} (hj : j < ids.length) (lv : Int) (b : Bool) :
    loopF (law07_GraphPast_L1 P (lv, (j : Int)) ids ⟨M⟩) (b, (0 : Int)) = some (.inl (b || P.any fun q => (past M q).contains (ids.getD j 0))) := by
  refine loopF_inv (body := law07_GraphPast_L1 P (lv, (j : Int)) ids ⟨M⟩) P.length (fun k s => s = (b || (P.take k).any (fun q => (past M q).contains (ids.getD j 0)), (k : Int))) (fun r => r = some (.inl (b || P.any fun q => (past M q).contains (ids.getD j 0)))) ?_ ?_ (by simp)
  · rintro k _ hk rfl
    left
    have c0 : decide ((k : Int) < ((P.length : Nat) : Int)) = true := decide_eq_true (by omega)
    have c1 : decide ((j : Int) < ((ids.length : Nat) : Int)) = true := decide_eq_true (by omega)
    refine ⟨_, ?_, rfl⟩
    rw [any_succ _ _ hk, ← Bool.or_assoc]
    unfold law07_GraphPast_L1
    simp only [c0, c1, cond_true, nn, Bool.and_self, chkO_true]
    cases hb : b || (P.take k).any (fun q => (past M q).contains (ids.getD j 0))
    · simp only [cond_false]
      rw [getI_in 0 hj, bind_s, getI_in 0 hk, bind_s, before_g h hs, bind_s, wrap64 (by omega) (by omega)]
      rfl
    · rw [wrap64 (by omega) (by omega)]
      rfl
  · rintro _ rfl
    refine ⟨_, ?_, rfl⟩
    unfold law07_GraphPast_L1
    simp only [Int.lt_irrefl, decide_false, cond_false, List.take_length]
noncomputable def lvStep (M : GM) (P : List Int) (m q : Int) : Int := bif P.contains q then up m (lev M q + 1) else m
theorem past_middle {M : GM} (h : OkG M) (hs : Sm M) {ids : List Int} (hl : ids.length ≤ 1000) (hm : ∀ x, x ∈ ids ↔ mhasT x M = true) {i : Nat} (hi : i < ids.length) :
    loopF (law07_GraphPast_L2 ids (par M (ids.getD i 0)) ⟨M⟩ (past M (ids.getD i 0)) (i : Int)) ((0 : Int), (0 : Int)) = some (.inl (lev M (ids.getD i 0))) := by
  have hgi := getI_in 0 hi
  have hmem := getD_mem hi
  generalize hx : ids.getD i 0 = x at hgi hmem
  have hhx := (hm x).1 hmem
  have hPl := hs.par x
  have hpl := past_len h hs x
  refine loopF_inv (body := law07_GraphPast_L2 ids (par M x) ⟨M⟩ (past M x) (i : Int)) ids.length (fun j s => s = ((ids.take j).foldl (lvStep M (par M x)) 0, (j : Int))) (fun r => r = some (.inl (lev M x))) ?_ ?_ rfl
  · rintro j _ hj rfl
    left
    have c0 : decide ((j : Int) < ((ids.length : Nat) : Int)) = true := decide_eq_true (by omega)
    have c1 : decide ((i : Int) < ((ids.length : Nat) : Int)) = true := decide_eq_true (by omega)
    have hgj := getI_in 0 hj
    have hmj := getD_mem hj
    have hin := past_inner h hs (ids := ids) (P := par M x) (by omega) hj
    have htk := take_succ_getD ids 0 hj
    generalize hy : ids.getD j 0 = y at hgj hmj hin htk
    have hhy := (hm y).1 hmj
    have hlb := lev_bound h y
    refine ⟨_, ?_, rfl⟩
    rw [htk, List.foldl_append]
    generalize (ids.take j).foldl (lvStep M (par M x)) 0 = acc at hin ⊢
    show _ = some (Sum.inl (lvStep M (par M x) acc y, ((j + 1 : Nat) : Int)))
    have hone : ∀ (c : Bool), c = (past M x).contains y → ∀ lv : Int, ((bif !(c == (past M x).contains y) then some (Sum.inr (Sum.inr (Sum.inr (Sum.inr (Sum.inr (Sum.inr false)))))) else bif c then (bif decide (x ≤ y) then some (Sum.inr (Sum.inr (Sum.inr (Sum.inr (Sum.inr (Sum.inr false)))))) else (graph_Graph_Level ⟨M⟩ y).bind fun a => (graph_Graph_Level ⟨M⟩ x).bind fun b => bif decide (b ≤ a) then some (Sum.inr (Sum.inr (Sum.inr (Sum.inr (Sum.inr (Sum.inr false)))))) else some (Sum.inl lv)) else some (Sum.inl lv)) : Option (Int ⊕ ((Int × Int) ⊕ (Int ⊕ (Unit ⊕ (Int ⊕ (Unit ⊕ Bool))))))) = some (Sum.inl lv) := by
      rintro _ rfl lv
      rw [beq_self_eq_true]
      cases hc : (past M x).contains y
      · rfl
      · rw [List.contains_iff_mem, past_mem h hs] at hc
        obtain ⟨k1, k2⟩ := rch_lt h hc
        simp only [Bool.not_true, cond_false, cond_true]
        rw [decide_eq_false (by omega), cond_false, level_g, bind_s, level_g, bind_s, levO_in hhy, levO_in hhx, decide_eq_false (by omega)]
        rfl
    unfold law07_GraphPast_L2
    simp only [c0, c1, cond_true, nn, Bool.and_self, chkO_true]
    rw [hgj, bind_s, has_eq _ _ (by omega), bind_s]
    have e1 : (seqF (A := Int) (B := Int ⊕ ((Int × Int) ⊕ (Int ⊕ (Unit ⊕ (Int ⊕ (Unit ⊕ Bool)))))) (bif (par M x).contains y then (graph_Graph_Level ⟨M⟩ y).bind fun y12943 => some (Sum.inl (if acc < (IntKind.i64.wrap (y12943 + (1 : Int))) then (IntKind.i64.wrap (y12943 + (1 : Int))) else acc)) else some (Sum.inl acc)) = fun k => k (lvStep M (par M x) acc y)) := by
      funext k
      unfold lvStep
      cases (par M x).contains y
      · rfl
      · simp only [cond_true]
        rw [level_g, bind_s, levO_in hhy, wrap64 (by omega) (by omega)]
        rfl
    rw [e1]
    dsimp only
    rw [hin, seqF_l]
    simp only [bind_s, hgi]
    rw [has_eq _ _ (by omega), bind_s]
    have e2 : ((past M x).contains y == ((par M x).contains y || (par M x).any fun q => (past M q).contains y)) = true := by
      rw [past_anc h hs]
      unfold anc
      simp
    rw [e2, before_g h hs, bind_s]
    simp only [Bool.not_true, cond_false]
    rw [hone _ rfl, seqF_l, wrap64 (by omega) (by omega)]
    rfl
  · rintro _ rfl
    refine ⟨_, ?_, rfl⟩
    unfold law07_GraphPast_L2
    have e : ids.foldl (lvStep M (par M x)) 0 = lev M x := by
      rw [h.lv x hhx]
      show ids.foldl (fun m q => bif (par M x).contains q then up m (lev M q + 1) else m) 0 = (par M x).foldl (fun m q => up m (lev M q + 1)) 0
      rw [up_filter (fun q => lev M q + 1) (fun q => (par M x).contains q)]
      refine up_same _ _ _ fun q => ?_
      rw [List.mem_filter, List.contains_iff_mem]
      exact ⟨fun h => h.2, fun hq => ⟨(hm q).2 (par_lt h hq).2.1, hq⟩⟩
    simp only [Int.lt_irrefl, decide_false, cond_false, List.take_length, e]
def api_Node.Q (x : api_Node) : Prop := (IntKind.i64.min ≤ x.Id ∧ x.Id ≤ IntKind.i64.max) ∧ (x.Parents.length ≤ maxLen ∧ ∀ u1 ∈ x.Parents, (IntKind.i64.min ≤ u1 ∧ u1 ≤ IntKind.i64.max))
theorem law07_GraphPast_true (a0 : List api_Node) (_w0 : (a0.length ≤ maxLen ∧ ∀ u2 ∈ a0, (api_Node.Q u2))) : law07_GraphPast a0 = some true := by
  unfold law07_GraphPast
  rw [small_true, bind_s, show ref07_Few a0 (20 : Int) = some ((a0.take 21).all (fun x => decide (x.Parents.length ≤ 30)) && decide (a0.length ≤ 20)) from few_eq a0 20 (by decide), bind_s]
  cases hf : (a0.take 21).all (fun x => decide (x.Parents.length ≤ 30)) && decide (a0.length ≤ 20)
  · rfl
  obtain ⟨hl, hp⟩ := few_spec (n := 20) hf
  simp only [Bool.not_true, cond_false]
  obtain ⟨M, k1, k2⟩ := known_eq (l := a0) (by omega) fun n hn => by have := hp n hn; omega
  have hs : Sm M := k2.toFrom.sm (by omega) fun n hn => by have := hp n hn; omega
  obtain ⟨ids, a2, a3, a4, a5, a6⟩ := all_from (l := a0) (by omega) k2.toFrom
  have h := k2.ok
  rw [k1, bind_s, a2, bind_s]
  have key : loopF (law07_GraphPast_L3 ids ⟨M⟩) (0 : Int) = some (.inl ()) := by
    have := loopF_idx (body := law07_GraphPast_L3 ids ⟨M⟩) ids.length (fun _ => true) true (fun i hi => by
      have c0 : decide ((i : Int) < ((ids.length : Nat) : Int)) = true := decide_eq_true (by omega)
      have hhx := (a4 _).1 (getD_mem hi)
      unfold law07_GraphPast_L3
      simp only [c0, cond_true, nn, Bool.and_self, chkO_true]
      rw [getI_in 0 hi, bind_s, past_g h hs, bind_s, parents_g h, bind_s, past_middle h hs (by omega) a4 hi, seqF_l, bind_s, level_g, bind_s, levO_in hhx, bne_self_eq_false, cond_false, seqF_l, wrap64 (by omega) (by omega)]) (by
      unfold law07_GraphPast_L3
      simp only [Int.lt_irrefl, decide_false, cond_false])
    rw [this]
    have : ((List.range ids.length).all fun _ => true) = true := by simp
    rw [this]
    rfl
  rw [key]
  rfl
end Go.Proofs.Ytlgadmholjaljaa
