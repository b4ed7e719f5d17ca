/-
  Layer 7, plain law: a graph answers as the reference does (GraphTells).
-/
import Derived.Test.YtlgadmholjaljaaRA
import Derived.Test.YtlgadmholjaljaaH7
namespace Go.Proofs.Ytlgadmholjaljaa
open Go.RowKit Go.Sort
theorem heads_len {M : GM} (h : OkG M) (hs : Sm M) : (headsP M).length ≤ 1000 := by
  have := sub_len (a := headsP M) (b := M.map Prod.fst) ((headsP_asc h).imp fun h => by omega) fun y hy => (mhas_iff _ _).1 ((headsP_mem h y).1 hy).1
  rw [List.length_map] at this
  have := hs.len
  omega
theorem tells_step {l : List api_Node} (hl : l.length ≤ 20) (hp : ∀ n ∈ l, n.Parents.length ≤ 30) (a : Int) {M : GM} (hF : From l M) {L : List api_Node} (h : Mir L M) {i : Nat} (hi : i < l.length) :
    ∃ L', law07_GraphTells_L1 l a ((i : Int), L, M) = some (.inl ((i : Int) + 1, L', addM M (l.getD i d0))) ∧ Mir L' (addM M (l.getD i d0)) := by
  have hg := getI_in d0 hi
  have hx := get_mem hi
  generalize l.getD i d0 = n at hg hx
  have hpn := hp n hx
  have hlM := hF.len
  have hlL := h.len hF.ok
  obtain ⟨L', k1, k2⟩ := refAdd_eq h hF.ok (by omega) n (by omega)
  have hF' := hF.add hx
  have hok := hF'.ok
  have hlM' := hF'.len
  have hlL' := k2.len hok
  have hs' : Sm (addM M n) := hF'.sm (by omega) fun m hm => by have := hp m hm; omega
  refine ⟨L', ?_, k2⟩
  have c0 : decide ((i : Int) < ((l.length : Nat) : Int)) = true := decide_eq_true (by omega)
  have hat : ∃ k : Int, ref07_Graph_At ⟨L'⟩ n.Id = some k ∧ decide ((0 : Int) ≤ k) = mhasT n.Id (addM M n) := by
    cases hb : mhasT n.Id (addM M n)
    · exact ⟨-1, at_no k2 (by omega) hb, rfl⟩
    · obtain ⟨k, _, _, h3⟩ := at_has k2 (by omega) hb
      exact ⟨k, h3, decide_eq_true (by omega)⟩
  obtain ⟨k, hk1, hk2⟩ := hat
  have hpl := par_len hok n.Id
  have hpal := past_len hok hs' n.Id
  have hhl := heads_len hok hs'
  unfold law07_GraphTells_L1
  simp only [c0, cond_true]
  rw [hg, bind_s, gadd_eq hF.ok n (by omega), bind_s, k1, bind_s]
  simp only [bne_self_eq_false, cond_false, len_g, has_g, bind_s, hlL', level_g, before_g hok hs', parents_g hok, past_g hok hs', heads_g hok hs', refLevel_eq k2 hok (show L'.length ≤ 10000 by omega), refBefore_eq k2 hok hs' (show L'.length ≤ 1000 by omega), refPar_eq k2 (show L'.length ≤ 10000 by omega), refPast_eq k2 hok hs' (show L'.length ≤ 1000 by omega), refHeads_eq k2 hok (show L'.length ≤ 1000 by omega), hk1, hk2, beq_self_eq_true, Bool.not_true, same_eq _ _ (show (par (addM M n) n.Id).length ≤ 1000000 by omega), same_eq _ _ (show (past (addM M n) n.Id).length ≤ 1000000 by omega), same_eq _ _ (show (headsP (addM M n)).length ≤ 1000000 by omega)]
  rw [wrap64 (by omega) (by omega)]
def api_Node.Q (x : api_Node) : Prop := (IntKind.i64.min ≤ x.Id ∧ x.Id ≤ IntKind.i64.max) ∧ (x.Parents.length ≤ maxLen ∧ ∀ u1 ∈ x.Parents, (IntKind.i64.min ≤ u1 ∧ u1 ≤ IntKind.i64.max))
theorem law07_GraphTells_true (a0 : List api_Node) (_w0 : (a0.length ≤ maxLen ∧ ∀ u2 ∈ a0, (api_Node.Q u2))) (a1 : Int) (_w1 : (IntKind.i64.min ≤ a1 ∧ a1 ≤ IntKind.i64.max)) (a2 : Int) (_w2 : (IntKind.i64.min ≤ a2 ∧ a2 ≤ IntKind.i64.max)) (a3 : List Int) (_w3 : (a3.length ≤ maxLen ∧ ∀ u3 ∈ a3, (IntKind.i64.min ≤ u3 ∧ u3 ≤ IntKind.i64.max))) : law07_GraphTells a0 a1 a2 a3 = some true := by
  unfold law07_GraphTells
  rw [small_true, bind_s, show ref07_Few a0 (20 : Int) = some ((a0.take 21).all (fun x => decide (x.Parents.length ≤ 30)) && decide (a0.length ≤ 20)) from few_eq a0 20 (by decide), bind_s]
  cases hf : (a0.take 21).all (fun x => decide (x.Parents.length ≤ 30)) && decide (a0.length ≤ 20)
  · rfl
  obtain ⟨hl, hp⟩ := few_spec (n := 20) hf
  simp only [Bool.not_true, cond_false]
  by_cases hS : a3.length ≤ 20
  · rw [decide_eq_false (by omega), cond_false, show graph_New = some ⟨[]⟩ from rfl, bind_s]
    have key : ∃ L M, loopF (law07_GraphTells_L1 a0 a1) ((0 : Int), [], []) = some (.inl (L, M)) ∧ From a0 M ∧ Mir L M := by
      refine loopF_inv (body := law07_GraphTells_L1 a0 a1) a0.length (fun i s => ∃ L M, s = ((i : Int), L, M) ∧ From a0 M ∧ Mir L M) (fun r => ∃ L M, r = some (.inl (L, M)) ∧ From a0 M ∧ Mir L M) ?_ ?_ ⟨[], [], rfl, from_nil a0, mir_nil⟩
      · rintro i _ hi ⟨L, M, rfl, hF, h⟩
        left
        obtain ⟨L', k1, k2⟩ := tells_step hl hp a1 hF h hi
        exact ⟨_, k1, L', _, rfl, hF.add (get_mem hi), k2⟩
      · rintro _ ⟨L, M, rfl, hF, h⟩
        refine ⟨.inl (L, M), ?_, L, M, rfl, hF, h⟩
        unfold law07_GraphTells_L1
        simp only [Int.lt_irrefl, decide_false, cond_false]
    obtain ⟨L, M, k1, hF, h⟩ := key
    have hok := hF.ok
    have hlM := hF.len
    have hlL := h.len hok
    have hs : Sm M := hF.sm (by omega) fun m hm => by have := hp m hm; omega
    obtain ⟨L', r1, r2, r3⟩ := refRestrict_eq h hok hs (by omega) (S := a3) (by omega)
    have hR := restrict_ok hok hs (ids := a3) (by omega)
    have hlR := r2.len hR
    have hparR : ∀ x, mhasT x (partP M (down M a3)) = true → par (partP M (down M a3)) x = par M x := fun x hx => part_par M (part_has'.1 hx)
    have hhasR : ∀ x, mhasT x (partP M (down M a3)) = true → mhasT x M = true := fun x hx => ((down_mem hok hs (by omega) x).1 (part_has'.1 hx)).has hok
    have sR : Sm (partP M (down M a3)) := by
      refine ⟨by omega, fun x => ?_⟩
      cases hx : mhasT x (partP M (down M a3))
      · rw [par_no hx]; simp
      · rw [hparR x hx]; exact hs.par x
    have hsame : sameB M (partP M (down M a3)) = ((L'.length : Int) == (L.length : Int)) := by
      apply bool_ext
      have e : ((L'.length : Int) == (L.length : Int)) = true ↔ L'.length = L.length := by rw [beq_iff_eq]; omega
      rw [e, same_iff hok hR]
      constructor
      · rintro ⟨h1, h2⟩
        have := (eqv_of hok hR h1 h2).len hok hR
        omega
      · intro he
        have hsub : ∀ x, mhasT x M = true → mhasT x (partP M (down M a3)) = true := fun x hx => by
          cases hq : mhasT x (partP M (down M a3))
          · exfalso
            have := sub_len (a := x :: (partP M (down M a3)).map Prod.fst) (b := M.map Prod.fst) (List.nodup_cons.2 ⟨fun hx' => (by rw [(mhas_iff _ _).2 hx'] at hq; cases hq), hR.nd⟩) fun y hy => by
              rcases List.mem_cons.1 hy with rfl | hy
              · exact (mhas_iff _ _).1 hx
              · exact (mhas_iff _ _).1 (hhasR y ((mhas_iff _ _).2 hy))
            simp only [List.length_cons, List.length_map] at this
            omega
          · rfl
        have hh : ∀ x, mhasT x M = mhasT x (partP M (down M a3)) := fun x => bool_ext ⟨hsub x, hhasR x⟩
        refine ⟨hh, fun x => ?_⟩
        cases hx : mhasT x M
        · rw [par_no hx, par_no (by rw [← hh]; exact hx)]
        · rw [hparR x (hsub x hx)]
    have hd : (down M a3).length ≤ 1000000 := by
      have := sub_len (a := down M a3) (b := M.map Prod.fst) ((down_asc hok hs (by omega)).imp fun h => by omega) fun y hy => (mhas_iff _ _).1 (((down_mem hok hs (by omega) y).1 hy).has hok)
      rw [List.length_map] at this
      omega
    have hso : (sortedP M a3).length ≤ 1000000 := by
      have := sub_len (a := sortedP M a3) (b := a3) (lasc_nodup (sortedP_asc hok (by omega))) fun y hy => ((sortedP_mem hok (by omega) y).1 hy).1
      omega
    have hhe := heads_len hR sR
    rw [k1, seqF_l]
    dsimp only
    rw [restrict_g hok hs (by omega), bind_s, r1, bind_s]
    simp only [before_g hok hs, refBefore_eq h hok hs (show L.length ≤ 1000 by omega), bind_s, beq_self_eq_true, cond_true, level_g, refLevel_eq h hok (show L.length ≤ 10000 by omega), down_eq hok hs (show a3.length ≤ 10000 by omega), refDown_eq h hok hs (show L.length ≤ 1000 by omega) (show a3.length ≤ 10000 by omega), same_eq _ _ hd, sortedP_eq hok (show a3.length ≤ 100000 by omega), refSorted_eq h hok (show L.length ≤ 50 by omega) (show a3.length ≤ 10000 by omega), same_eq _ _ hso, seqF_l, len_g, hlR, heads_g hR sR, refHeads_eq r2 hR (show L'.length ≤ 1000 by omega), same_eq _ _ (show (headsP (partP M (down M a3))).length ≤ 1000000 by omega), same_g hok, hsame]
    rfl
  · rw [decide_eq_true (by omega), cond_true]
end Go.Proofs.Ytlgadmholjaljaa
