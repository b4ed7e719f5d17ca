/-
  Layer 7, plain law: a node that is refused changes nothing (GraphRefuses).
-/
import Derived.Test.YtlgadmholjaljaaPA
import Derived.Test.YtlgadmholjaljaaH4
namespace Go.Proofs.Ytlgadmholjaljaa
open Go.RowKit Go.Sort
theorem missing_loop {l : List api_Node} {M : GM} {i : Nat} {n : api_Node} (hn : n.Parents.length ≤ 1000) (hg : getI l (i : Int) = some n) (M0 : GM) :
    loopF (law07_GraphRefuses_L1 l ((i : Int), M0) ⟨M⟩) (false, (0 : Int)) = some (.inl (!(n.Parents.all fun q => mhasT q M))) := by
  refine loopF_inv (body := law07_GraphRefuses_L1 l ((i : Int), M0) ⟨M⟩) n.Parents.length (fun k s => s = (!((n.Parents.take k).all fun q => mhasT q M), (k : Int))) (fun r => r = some (.inl (!(n.Parents.all fun q => mhasT q M)))) ?_ ?_ rfl
  · rintro k _ hk rfl
    left
    have c0 : decide ((k : Int) < (n.Parents.length : Int)) = true := decide_eq_true (by omega)
    have hx := getI_in 0 hk
    have e : (n.Parents.take (k + 1)).all (fun q => mhasT q M) = ((n.Parents.take k).all (fun q => mhasT q M) && mhasT (n.Parents.getD k 0) M) := by
      rw [take_succ_getD _ 0 hk, List.all_append]
      simp
    refine ⟨_, ?_, rfl⟩
    unfold law07_GraphRefuses_L1
    simp only [hg, bind_s, c0, cond_true]
    rw [e, hx, bind_s, has_g, bind_s, wrap64 (by omega) (by omega)]
    cases (n.Parents.take k).all (fun q => mhasT q M) <;> cases mhasT (n.Parents.getD k 0) M <;> rfl
  · rintro _ rfl
    refine ⟨_, ?_, rfl⟩
    unfold law07_GraphRefuses_L1
    simp only [hg, bind_s, Int.lt_irrefl, decide_false, cond_false, List.take_length]
theorem addM_there {M : GM} {n : api_Node} (h : mhasT n.Id M = true) : addM M n = M := by
  unfold addM
  rw [h]
  simp
theorem refuse_step {l : List api_Node} (hl : l.length ≤ 1000) (hp : ∀ n ∈ l, n.Parents.length ≤ 100) {M : GM} (h : From l M) {i : Nat} (hi : i < l.length) : law07_GraphRefuses_L2 l ((i : Int), M) = some (.inl ((i : Int) + 1, addM M (l.getD i ⟨0, []⟩))) := by
  have hg := getI_in (⟨0, []⟩ : api_Node) hi
  have hx : l.getD i ⟨0, []⟩ ∈ l := by
    rw [List.getD_eq_getElem?_getD, List.getElem?_eq_getElem hi]
    exact List.getElem_mem hi
  have hpx := hp _ hx
  generalize l.getD i ⟨0, []⟩ = n at hg hx hpx
  have c0 : decide ((i : Int) < (l.length : Int)) = true := decide_eq_true (by omega)
  have hok := h.ok
  have hok1 : OkG (addM M n) := addM_ok hok n
  have sMM : sameB M M = true := (Eqv.refl M).same hok hok
  have hlen := h.len
  have hpar := par_len hok n.Id
  unfold law07_GraphRefuses_L2
  simp only [c0, cond_true]
  rw [copy_g, bind_s, hg, bind_s, right_eq _ (by omega), bind_s, missing_loop (by omega) hg, wrap64 (n := (i : Int) + 1) (by omega) (by omega)]
  simp only [seqF_l, bind_s]
  rw [gadd_eq hok _ (by omega)]
  simp only [bind_s]
  have z1 : ((1 : Int) != 0) = true := rfl
  have z5 : ((5 : Int) != 0) = true := rfl
  have z14 : ((14 : Int) != 0) = true := rfl
  have y1 : ((1 : Int) == 0) = false := rfl
  have y5 : ((5 : Int) == 0) = false := rfl
  have y14 : ((14 : Int) == 0) = false := rfl
  cases hA : okN n
  · have hC : addC M n = 1 := by unfold addC; rw [hA]; rfl
    have hM : addM M n = M := by unfold addM; rw [hA]; rfl
    simp only [cond_false, seqF_l, Bool.not_false, cond_true, hC, hM, bne_self_eq_false, z1]
    rw [same_g hok, bind_s, sMM]
    simp only [Bool.not_true, cond_false, y1, seqF_l]
  · cases hB : mhasT n.Id M
    · cases hD : n.Parents.all fun q => mhasT q M
      · have hC : addC M n = 14 := by unfold addC; rw [hA, hB, hD]; rfl
        have hM : addM M n = M := by unfold addM; rw [hA, hB, hD]; rfl
        simp only [cond_true, cond_false, bind_s, has_g, hB, seqF_l, Bool.not_true, Bool.not_false, hC, hM, bne_self_eq_false, z14]
        rw [same_g hok, bind_s, sMM]
        simp only [Bool.not_true, cond_false, y14, seqF_l]
      · have hC : addC M n = 0 := by unfold addC; rw [hA, hB, hD]; rfl
        have hH : mhasT n.Id (addM M n) = true := by rw [addM_has, hA, hD]; simp
        have hP : par (addM M n) n.Id = n.Parents := by unfold par; rw [addM_new hA hB hD]
        have hC2 : addC (addM M n) n = 0 := by unfold addC; rw [hA, hH, hP]; simp
        have hM2 : addM (addM M n) n = addM M n := addM_there hH
        have hL : (addM M n).length = M.length + 1 := by
          unfold addM
          rw [hA, hB, hD]
          simp only [Bool.not_false, Bool.and_self, cond_true]
          rw [mput_len, hB]
          rfl
        simp only [cond_true, cond_false, bind_s, has_g, hB, seqF_l, Bool.not_true, Bool.not_false, hC, bne_self_eq_false, beq_self_eq_true, hH]
        rw [gadd_eq hok1 _ (by omega)]
        simp only [bind_s, hC2, hM2, bne_self_eq_false, cond_false, len_g, hL]
        rw [wrap64 (by omega) (by omega)]
        have : (((M.length + 1 : Nat) : Int) != (M.length : Int) + 1) = false := by simp
        rw [this]
        rfl
    · have hM : addM M n = M := by unfold addM; rw [hA, hB]; rfl
      cases hE : par M n.Id == n.Parents
      · have hC : addC M n = 5 := by unfold addC; rw [hA, hB, hE]; rfl
        simp only [cond_true, cond_false, bind_s, has_g, hB, seqF_l, Bool.not_true, hC, hM]
        rw [parents_g hok, bind_s, same_eq _ _ (by omega), bind_s, hE]
        simp only [Bool.not_false, seqF_l, cond_true, bne_self_eq_false, cond_false, z5]
        rw [same_g hok, bind_s, sMM]
        simp only [Bool.not_true, cond_false, y5, seqF_l]
      · have hC : addC M n = 0 := by unfold addC; rw [hA, hB, hE]; rfl
        have hEq : par M n.Id = n.Parents := by simpa using hE
        have hD : (n.Parents.all fun q => mhasT q M) = true := by
          rw [List.all_eq_true]
          intro q hq
          rw [← hEq] at hq
          exact hok.has _ hB q hq
        simp only [cond_true, cond_false, bind_s, has_g, hB, seqF_l, Bool.not_true, hC, hM, hD]
        rw [parents_g hok, bind_s, same_eq _ _ (by omega), bind_s, hE]
        simp only [Bool.not_true, seqF_l, cond_false, bne_self_eq_false, beq_self_eq_true, cond_true]
        rw [gadd_eq hok _ (by omega)]
        simp only [bind_s, hC, hM, bne_self_eq_false, cond_false]
        rw [same_g hok, bind_s, sMM]
        simp only [Bool.not_true, cond_false, seqF_l]
def api_Node.Q (x : api_Node) : Prop := (IntKind.i64.min ≤ x.Id ∧ x.Id ≤ IntKind.i64.max) ∧ (x.Parents.length ≤ maxLen ∧ ∀ u1 ∈ x.Parents, (IntKind.i64.min ≤ u1 ∧ u1 ≤ IntKind.i64.max))
theorem law07_GraphRefuses_true (a0 : List api_Node) (_w0 : (a0.length ≤ maxLen ∧ ∀ u2 ∈ a0, (api_Node.Q u2))) : law07_GraphRefuses a0 = some true := by
  unfold law07_GraphRefuses
  rw [small_true, bind_s, show ref07_Few a0 (20 : Int) = some ((a0.take 21).all (fun x => decide (x.Parents.length ≤ 30)) && decide (a0.length ≤ 20)) from few_eq a0 20 (by decide), bind_s]
  cases hf : (a0.take 21).all (fun x => decide (x.Parents.length ≤ 30)) && decide (a0.length ≤ 20)
  · rfl
  obtain ⟨hl, hp⟩ := few_spec (n := 20) hf
  have hp' : ∀ n ∈ a0, n.Parents.length ≤ 100 := fun n hn => by have := hp n hn; omega
  simp only [Bool.not_true, cond_false]
  rw [show graph_New = some ⟨[]⟩ from rfl, bind_s]
  have key : loopF (law07_GraphRefuses_L2 a0) ((0 : Int), []) = some (.inl ()) := by
    refine loopF_inv (body := law07_GraphRefuses_L2 a0) a0.length (fun i s => ∃ M, s = ((i : Int), M) ∧ From a0 M) (fun r => r = some (.inl ())) ?_ ?_ ⟨[], rfl, from_nil a0⟩
    · rintro i _ hi ⟨M, rfl, hM⟩
      left
      refine ⟨_, refuse_step (by omega) hp' hM hi, _, rfl, hM.add ?_⟩
      rw [List.getD_eq_getElem?_getD, List.getElem?_eq_getElem hi]
      exact List.getElem_mem hi
    · rintro _ ⟨M, rfl, hM⟩
      refine ⟨_, ?_, rfl⟩
      unfold law07_GraphRefuses_L2
      simp only [Int.lt_irrefl, decide_false, cond_false]
  rw [key]
  rfl
end Go.Proofs.Ytlgadmholjaljaa
