/-
  Layer 7, plain law: the reference's graph, a list in order of ids: adding, parents.
  Layer 7, plain law: the reference's graph: levels.
  Layer 7, plain law: the reference's graph: what is below some nodes.
  Layer 7, plain law: the reference's graph: heads, parts, the order by levels.
-/
import Derived.Test.YtlgadmholjaljaaPA
namespace Go.Proofs.Ytlgadmholjaljaa
open Go.RowKit Go.Sort
def d0 : api_Node := ⟨0, []⟩
structure Mir (L : List api_Node) (M : GM) : Prop where
  asc : L.Pairwise fun a b => a.Id < b.Id
  has : ∀ x, mhasT x M = true ↔ ∃ n ∈ L, n.Id = x
  par : ∀ n ∈ L, par M n.Id = n.Parents
theorem get_mem {L : List api_Node} {i : Nat} (h : i < L.length) : L.getD i d0 ∈ L := by
  rw [List.getD_eq_getElem?_getD, List.getElem?_eq_getElem h]
  exact List.getElem_mem h
theorem mem_get {L : List api_Node} {n : api_Node} (h : n ∈ L) : ∃ i, i < L.length ∧ L.getD i d0 = n := by
  obtain ⟨i, hi, rfl⟩ := List.getElem_of_mem h
  exact ⟨i, hi, by rw [List.getD_eq_getElem?_getD, List.getElem?_eq_getElem hi]; rfl⟩
theorem Mir.lt {L : List api_Node} {M : GM} (h : Mir L M) {i j : Nat} (hij : i < j) (hj : j < L.length) : (L.getD i d0).Id < (L.getD j d0).Id := by
  rw [List.getD_eq_getElem?_getD, List.getD_eq_getElem?_getD, List.getElem?_eq_getElem hj, List.getElem?_eq_getElem (by omega : i < L.length)]
  exact List.pairwise_iff_getElem.1 h.asc i j (by omega) hj hij
theorem Mir.inj {L : List api_Node} {M : GM} (h : Mir L M) {i j : Nat} (hi : i < L.length) (hj : j < L.length) (e : (L.getD i d0).Id = (L.getD j d0).Id) : i = j := by
  rcases Nat.lt_trichotomy i j with hc | hc | hc
  · have := h.lt hc hj; omega
  · exact hc
  · have := h.lt hc hi; omega
theorem Mir.ids {L : List api_Node} {M : GM} (h : Mir L M) (x : Int) : x ∈ L.map (fun n => n.Id) ↔ mhasT x M = true := by
  rw [h.has, List.mem_map]
theorem Mir.nodup {L : List api_Node} {M : GM} (h : Mir L M) : (L.map fun n => n.Id).Nodup := by
  rw [List.Nodup, List.pairwise_map]
  exact h.asc.imp fun h => by omega
theorem Mir.len {L : List api_Node} {M : GM} (h : Mir L M) (hM : OkG M) : M.length = L.length := by
  have a1 := sub_len (a := M.map Prod.fst) (b := L.map fun n => n.Id) hM.nd fun x hx => (h.ids x).2 ((mhas_iff _ _).2 hx)
  have a2 := sub_len (b := M.map Prod.fst) h.nodup fun x hx => (mhas_iff _ _).1 ((h.ids x).1 hx)
  rw [List.length_map, List.length_map] at a1 a2
  omega
theorem mir_nil : Mir [] [] := ⟨List.Pairwise.nil, fun x => by simp [mhasT], fun n hn => by cases hn⟩
/- where a node is -/
theorem at_spec {L : List api_Node} (hl : L.length ≤ 10000) (x : Int) : (∃ k : Nat, k < L.length ∧ (L.getD k d0).Id = x ∧ ref07_Graph_At ⟨L⟩ x = some (k : Int)) ∨ ((∀ n ∈ L, n.Id ≠ x) ∧ ref07_Graph_At ⟨L⟩ x = some (-1)) := by
  have key : (∃ k : Nat, k < L.length ∧ (L.getD k d0).Id = x ∧ loopF (ref07_Graph_At_L1 ⟨L⟩ x) (0 : Int) = some (.inr (k : Int))) ∨ ((∀ n ∈ L, n.Id ≠ x) ∧ loopF (ref07_Graph_At_L1 ⟨L⟩ x) (0 : Int) = some (.inl ())) := by
    refine loopF_inv (body := ref07_Graph_At_L1 ⟨L⟩ x) L.length (fun i s => s = (i : Int) ∧ ∀ n ∈ L.take i, n.Id ≠ x) (fun r => (∃ k : Nat, k < L.length ∧ (L.getD k d0).Id = x ∧ r = some (.inr (k : Int))) ∨ ((∀ n ∈ L, n.Id ≠ x) ∧ r = some (.inl ()))) ?_ ?_ ⟨rfl, fun n hn => by simp at hn⟩
    · rintro i _ hi ⟨rfl, h1⟩
      have c0 : decide ((i : Int) < ((L.length : Nat) : Int)) = true := decide_eq_true (by omega)
      have hb : ref07_Graph_At_L1 ⟨L⟩ x (i : Int) = bif (L.getD i d0).Id == x then some (.inr (.inr (i : Int))) else some (.inl ((i : Int) + 1)) := by
        unfold ref07_Graph_At_L1
        simp only [c0, cond_true]
        rw [getI_in d0 hi, bind_s, wrap64 (by omega) (by omega)]
      rw [hb]
      cases hc : (L.getD i d0).Id == x
      · left
        refine ⟨_, rfl, rfl, fun n hn => ?_⟩
        rw [take_succ_getD L d0 hi, List.mem_append, List.mem_singleton] at hn
        rcases hn with hn | rfl
        · exact h1 n hn
        · simpa using hc
      · right
        exact ⟨_, rfl, Or.inl ⟨i, hi, by simpa using hc, rfl⟩⟩
    · rintro _ ⟨rfl, h1⟩
      rw [List.take_length] at h1
      refine ⟨_, ?_, Or.inr ⟨h1, rfl⟩⟩
      unfold ref07_Graph_At_L1
      simp only [Int.lt_irrefl, decide_false, cond_false]
  unfold ref07_Graph_At
  rcases key with ⟨k, h1, h2, h3⟩ | ⟨h1, h3⟩
  · left
    refine ⟨k, h1, h2, ?_⟩
    rw [h3, seqF_r]
  · right
    refine ⟨h1, ?_⟩
    rw [h3, seqF_l]
theorem at_has {L : List api_Node} {M : GM} (h : Mir L M) (hl : L.length ≤ 10000) {x : Int} (hx : mhasT x M = true) : ∃ k : Nat, k < L.length ∧ (L.getD k d0).Id = x ∧ ref07_Graph_At ⟨L⟩ x = some (k : Int) := by
  rcases at_spec hl x with h1 | ⟨h1, _⟩
  · exact h1
  · obtain ⟨n, h2, h3⟩ := (h.has x).1 hx
    exact absurd h3 (h1 n h2)
theorem at_no {L : List api_Node} {M : GM} (h : Mir L M) (hl : L.length ≤ 10000) {x : Int} (hx : mhasT x M = false) : ref07_Graph_At ⟨L⟩ x = some (-1) := by
  rcases at_spec hl x with ⟨k, h1, h2, _⟩ | ⟨_, h2⟩
  · rw [(h.has x).2 ⟨_, get_mem h1, h2⟩] at hx
    cases hx
  · exact h2
theorem refPar_eq {L : List api_Node} {M : GM} (h : Mir L M) (hl : L.length ≤ 10000) (x : Int) : ref07_Graph_Parents ⟨L⟩ x = some (par M x) := by
  unfold ref07_Graph_Parents
  cases hx : mhasT x M
  · rw [at_no h hl hx, bind_s, par_no hx]
    rfl
  · obtain ⟨k, h1, h2, h3⟩ := at_has h hl hx
    rw [h3, bind_s, decide_eq_false (by omega), cond_false, getI_in d0 h1, bind_s, ← h2, h.par _ (get_mem h1)]
theorem refParZ_eq {L : List api_Node} {M : GM} (h : Mir L M) (hl : L.length ≤ 10000) (x : Int) : ref07_Graph_Parents_z ⟨L⟩ x = some (par M x) := refPar_eq h hl x
/- adding -/
theorem add_L1 {L : List api_Node} {M : GM} (h : Mir L M) (hl : L.length ≤ 10000) (n : api_Node) (hn : n.Parents.length ≤ 10000) :
    loopF (ref07_Graph_Add_L1 n ⟨L⟩) (0 : Int) = some (bif n.Parents.all fun q => mhasT q M then .inl () else .inr ((14 : Int), ⟨L⟩)) := by
  have hall : ((List.range n.Parents.length).all fun i => mhasT (n.Parents.getD i 0) M) = n.Parents.all fun q => mhasT q M := by
    apply bool_ext
    rw [List.all_eq_true, List.all_eq_true]
    constructor
    · intro h x hx
      obtain ⟨i, hi, rfl⟩ := List.getElem_of_mem hx
      have := h i (List.mem_range.2 hi)
      rwa [List.getD_eq_getElem?_getD, List.getElem?_eq_getElem hi] at this
    · intro h i hi
      exact h _ (getD_mem (List.mem_range.1 hi))
  rw [loopF_idx (body := ref07_Graph_Add_L1 n ⟨L⟩) n.Parents.length (fun i => mhasT (n.Parents.getD i 0) M) ((14 : Int), ⟨L⟩) (fun i hi => by
    have c0 : decide ((i : Int) < ((n.Parents.length : Nat) : Int)) = true := decide_eq_true (by omega)
    unfold ref07_Graph_Add_L1
    simp only [c0, cond_true]
    rw [getI_in 0 hi, bind_s, wrap64 (by omega) (by omega)]
    cases hx : mhasT (n.Parents.getD i 0) M
    · rw [at_no h hl hx]
      rfl
    · obtain ⟨k, _, _, h3⟩ := at_has h hl hx
      rw [h3, bind_s, decide_eq_false (by omega)]
      rfl) (by
    unfold ref07_Graph_Add_L1
    simp only [Int.lt_irrefl, decide_false, cond_false]), hall]
theorem node_eta (n : api_Node) : api_Node.mk n.Id (([] : List Int) ++ n.Parents) = n := rfl
theorem add_L2 {L : List api_Node} (hl : L.length ≤ 10000) (n : api_Node) (hn : n.Parents.length ≤ 10000) :
    ∃ A B : List api_Node, L = A ++ B ∧ (∀ x ∈ A, ¬ n.Id < x.Id) ∧ ((B = [] ∧ loopF (ref07_Graph_Add_L2 ⟨L⟩ n) (false, (0 : Int), []) = some (.inl (false, A))) ∨ (∃ b B', B = b :: B' ∧ n.Id < b.Id ∧ loopF (ref07_Graph_Add_L2 ⟨L⟩ n) (false, (0 : Int), []) = some (.inl (true, A ++ n :: B)))) := by
  refine loopF_inv (body := ref07_Graph_Add_L2 ⟨L⟩ n) L.length (fun i s => ∃ A B : List api_Node, L.take i = A ++ B ∧ (∀ x ∈ A, ¬ n.Id < x.Id) ∧ ((B = [] ∧ s = (false, (i : Int), A)) ∨ (∃ b B', B = b :: B' ∧ n.Id < b.Id ∧ s = (true, (i : Int), A ++ n :: B))))
    (fun r => ∃ A B : List api_Node, L = A ++ B ∧ (∀ x ∈ A, ¬ n.Id < x.Id) ∧ ((B = [] ∧ r = some (.inl (false, A))) ∨ (∃ b B', B = b :: B' ∧ n.Id < b.Id ∧ r = some (.inl (true, A ++ n :: B))))) ?_ ?_ ⟨[], [], rfl, (fun x hx => by simp at hx), Or.inl ⟨rfl, rfl⟩⟩
  · rintro i s hi ⟨A, B, h1, h2, h3⟩
    left
    have c0 : decide ((i : Int) < ((L.length : Nat) : Int)) = true := decide_eq_true (by omega)
    have hlen : A.length + B.length = i := by
      have := congrArg List.length h1
      rw [List.length_append, List.length_take] at this
      omega
    have hg := getI_in d0 hi
    have htk := take_succ_getD L d0 hi
    generalize L.getD i d0 = x at hg htk
    rcases h3 with ⟨rfl, rfl⟩ | ⟨b, B', rfl, hb, rfl⟩
    · rw [List.length_nil] at hlen
      have hbody : ref07_Graph_Add_L2 ⟨L⟩ n (false, (i : Int), A) = bif decide (n.Id < x.Id) then some (.inl (true, (i : Int) + 1, (A ++ [n]) ++ [x])) else some (.inl (false, (i : Int) + 1, A ++ [x])) := by
        unfold ref07_Graph_Add_L2
        simp only [c0, cond_true, Bool.not_false]
        rw [hg, bind_s, node_eta, chk_true (b := decide (0 + n.Parents.length ≤ 1000000)) (decide_eq_true (by omega)), chk_true (b := decide (A.length + [n].length ≤ 1000000)) (decide_eq_true (by simp; omega)), chk_true (b := decide ((A ++ [n]).length + [x].length ≤ 1000000)) (decide_eq_true (by simp; omega)), chk_true (b := decide (A.length + [x].length ≤ 1000000)) (decide_eq_true (by simp; omega)), wrap64 (by omega) (by omega)]
      rw [hbody]
      by_cases hx : n.Id < x.Id
      · rw [decide_eq_true hx]
        refine ⟨_, rfl, A, [x], by rw [htk, h1]; simp, h2, Or.inr ⟨x, [], rfl, hx, by simp⟩⟩
      · rw [decide_eq_false hx]
        refine ⟨_, rfl, A ++ [x], [], by rw [htk, h1]; simp, fun y hy => ?_, Or.inl ⟨rfl, rfl⟩⟩
        rw [List.mem_append, List.mem_singleton] at hy
        rcases hy with hy | rfl
        · exact h2 y hy
        · exact hx
    · rw [List.length_cons] at hlen
      refine ⟨_, ?_, A, (b :: B') ++ [x], by rw [htk, h1, List.append_assoc], h2, Or.inr ⟨b, B' ++ [x], rfl, hb, rfl⟩⟩
      unfold ref07_Graph_Add_L2
      simp only [c0, cond_true, Bool.not_true, cond_false]
      rw [hg, bind_s, chk_true (decide_eq_true (by simp; omega)), wrap64 (by omega) (by omega)]
      simp
  · rintro s ⟨A, B, h1, h2, h3⟩
    rw [List.take_length] at h1
    rcases h3 with ⟨rfl, rfl⟩ | ⟨b, B', rfl, hb, rfl⟩
    · refine ⟨.inl (false, A), ?_, A, [], h1, h2, Or.inl ⟨rfl, rfl⟩⟩
      unfold ref07_Graph_Add_L2
      simp only [Int.lt_irrefl, decide_false, cond_false]
    · refine ⟨.inl (true, A ++ n :: b :: B'), ?_, A, b :: B', h1, h2, Or.inr ⟨b, B', rfl, hb, rfl⟩⟩
      unfold ref07_Graph_Add_L2
      simp only [Int.lt_irrefl, decide_false, cond_false]
theorem refAdd_eq {L : List api_Node} {M : GM} (h : Mir L M) (hM : OkG M) (hl : L.length ≤ 1000) (n : api_Node) (hn : n.Parents.length ≤ 1000) :
    ∃ L', ref07_Graph_Add ⟨L⟩ n = some (addC M n, ⟨L'⟩) ∧ Mir L' (addM M n) := by
  unfold ref07_Graph_Add addC
  rw [right_eq n (by omega), bind_s]
  cases hA : okN n
  · refine ⟨L, rfl, ?_⟩
    unfold addM
    rw [hA]
    exact h
  simp only [Bool.not_true, cond_false]
  cases hB : mhasT n.Id M
  · rw [at_no h (by omega) hB, bind_s, show decide ((0 : Int) ≤ -1) = false from rfl, cond_false, add_L1 h (by omega) n (by omega)]
    cases hD : n.Parents.all fun q => mhasT q M
    · refine ⟨L, rfl, ?_⟩
      unfold addM
      rw [hA, hB, hD]
      exact h
    · simp only [cond_true, cond_false, seqF_l]
      obtain ⟨A, B, h1, h2, h3⟩ := add_L2 (L := L) (by omega) n (by omega)
      have hne : ∀ x ∈ L, x.Id ≠ n.Id := fun x hx e => by
        rw [(h.has n.Id).2 ⟨x, hx, e⟩] at hB
        cases hB
      have hasc := h.asc
      rw [h1, List.pairwise_append] at hasc
      have hmir : (∀ b ∈ B, n.Id < b.Id) → Mir (A ++ n :: B) (addM M n) := fun hB' => by
        have hhas : ∀ x, mhasT x (addM M n) = (mhasT x M || x == n.Id) := fun x => by
          rw [addM_has, hA, hD]
          simp
        refine ⟨?_, fun x => ?_, fun m hm => ?_⟩
        · rw [List.pairwise_append]
          refine ⟨hasc.1, List.pairwise_cons.2 ⟨hB', hasc.2.1⟩, fun a ha b hb => ?_⟩
          rcases List.mem_cons.1 hb with rfl | hb
          · have k1 := h2 a ha
            have k2 := hne a (by rw [h1]; exact List.mem_append_left _ ha)
            omega
          · exact hasc.2.2 a ha b hb
        · rw [hhas, Bool.or_eq_true, h.has, beq_iff_eq, h1]
          constructor
          · rintro (⟨m, hm, rfl⟩ | rfl)
            · refine ⟨m, ?_, rfl⟩
              rw [List.mem_append] at hm ⊢
              rcases hm with hm | hm
              · exact Or.inl hm
              · exact Or.inr (List.mem_cons_of_mem _ hm)
            · exact ⟨n, by simp, rfl⟩
          · rintro ⟨m, hm, rfl⟩
            rw [List.mem_append, List.mem_cons] at hm
            rcases hm with hm | rfl | hm
            · exact Or.inl ⟨m, List.mem_append_left _ hm, rfl⟩
            · exact Or.inr rfl
            · exact Or.inl ⟨m, List.mem_append_right _ hm, rfl⟩
        · rw [List.mem_append, List.mem_cons] at hm
          by_cases he : m = n
          · subst he
            unfold Go.Proofs.Ytlgadmholjaljaa.par
            rw [addM_new hA hB hD]
          · have hmL : m ∈ L := by
              rw [h1, List.mem_append]
              rcases hm with hm | hm | hm
              · exact Or.inl hm
              · exact absurd hm he
              · exact Or.inr hm
            have := h.par m hmL
            unfold Go.Proofs.Ytlgadmholjaljaa.par at this ⊢
            rw [addM_old ((h.has m.Id).2 ⟨m, hmL, rfl⟩)]
            exact this
      rcases h3 with ⟨rfl, h3⟩ | ⟨b, B', rfl, hb, h3⟩
      · rw [h3, seqF_l]
        simp only [Bool.not_false, cond_true]
        have hAl : A.length ≤ 1000 := by
          rw [h1, List.append_nil] at hl
          exact hl
        rw [node_eta, chk_true (decide_eq_true (by omega)), chk_true (decide_eq_true (by simp; omega))]
        exact ⟨_, rfl, hmir fun b hb => by cases hb⟩
      · rw [h3, seqF_l]
        simp only [Bool.not_true, cond_false]
        refine ⟨_, rfl, hmir fun c hc => ?_⟩
        rcases List.mem_cons.1 hc with rfl | hc
        · exact hb
        · have := (List.pairwise_cons.1 hasc.2.1).1 c hc
          omega
  · obtain ⟨k, h1, h2, h3⟩ := at_has h (by omega) hB
    have hp := par_len hM n.Id
    have e : (L.getD k d0).Parents = par M n.Id := by rw [← h2, h.par _ (get_mem h1)]
    rw [h3, bind_s, decide_eq_true (by omega), cond_true, getI_in d0 h1, bind_s, e, same_eq _ _ (by omega), bind_s]
    have hm : addM M n = M := by unfold addM; rw [hB]; simp
    simp only [cond_true]
    refine ⟨L, ?_, by rw [hm]; exact h⟩
    cases par M n.Id == n.Parents <;> rfl
end Go.Proofs.Ytlgadmholjaljaa
namespace Go.Proofs.Ytlgadmholjaljaa
open Go.RowKit Go.Sort
noncomputable def lvS (M : GM) (P : List Int) (m q : Int) : Int := bif P.contains q then up m (lev M q + 1) else m
theorem lvS_all {M : GM} (P l : List Int) (h : ∀ q ∈ P, q ∈ l) : l.foldl (lvS M P) 0 = lvl M P := by
  show l.foldl (fun m q => bif P.contains q then up m (lev M q + 1) else m) 0 = P.foldl (fun m q => up m (lev M q + 1)) 0
  rw [up_filter (fun q => lev M q + 1) (fun q => P.contains q)]
  refine up_same _ _ _ fun q => ?_
  rw [List.mem_filter, List.contains_iff_mem]
  exact ⟨fun h => h.2, fun hq => ⟨h q hq, hq⟩⟩
noncomputable def lvs (M : GM) (L : List api_Node) : List Int := L.map fun n => lev M n.Id
theorem mir_below {L : List api_Node} {M : GM} (h : Mir L M) (hM : OkG M) {i : Nat} {q : Int} (hq : q ∈ par M (L.getD i d0).Id) : ∃ j, j < i ∧ (L.getD j d0).Id = q := by
  obtain ⟨_, h1, h2, _⟩ := par_lt hM hq
  obtain ⟨n, hn, rfl⟩ := (h.has q).1 h1
  obtain ⟨j, hj, rfl⟩ := mem_get hn
  refine ⟨j, ?_, rfl⟩
  rcases Nat.lt_or_ge j i with hc | hc
  · exact hc
  · rcases Nat.eq_or_lt_of_le hc with rfl | hc
    · omega
    · have := h.lt hc hj
      omega
theorem map_take_mem {L : List api_Node} {i j : Nat} (hj : j < i) (hi : i ≤ L.length) : (L.getD j d0).Id ∈ (L.take i).map fun n => n.Id := by
  refine List.mem_map.2 ⟨L.getD j d0, ?_, rfl⟩
  rw [List.mem_take_iff_getElem]
  exact ⟨j, by omega, by rw [List.getD_eq_getElem?_getD, List.getElem?_eq_getElem (by omega : j < L.length)]; rfl⟩
theorem level_inner {L : List api_Node} {M : GM} (h : Mir L M) (hM : OkG M) (hl : L.length ≤ 10000) {i : Nat} (hi : i < L.length) :
    loopF (ref07_Graph_Level_L1 ((i : Int), lvs M (L.take i)) ⟨L⟩) ((0 : Int), (0 : Int)) = some (.inl (lev M (L.getD i d0).Id)) := by
  have hgi := getI_in d0 hi
  have hbel := fun {q : Int} (hq : q ∈ par M (L.getD i d0).Id) => mir_below h hM hq
  have hmi := get_mem hi
  generalize hx : L.getD i d0 = x at hgi hbel hmi
  have hP := h.par x hmi
  have hpl := par_len hM x.Id
  have hhx : mhasT x.Id M = true := (h.has _).2 ⟨x, hmi, rfl⟩
  have hlen : (lvs M (L.take i)).length = i := by unfold lvs; rw [List.length_map, List.length_take]; omega
  refine loopF_inv (body := ref07_Graph_Level_L1 ((i : Int), lvs M (L.take i)) ⟨L⟩) i (fun j s => s = (((L.take j).map fun n => n.Id).foldl (lvS M (par M x.Id)) 0, (j : Int))) (fun r => r = some (.inl (lev M x.Id))) ?_ ?_ rfl
  · rintro j _ hj rfl
    left
    have c0 : decide ((j : Int) < (i : Int)) = true := decide_eq_true (by omega)
    have c1 : decide ((j : Int) < (((lvs M (L.take i)).length : Nat) : Int)) = true := decide_eq_true (by omega)
    have hgj := getI_in d0 (show j < L.length by omega)
    have hgl := getI_in 0 (show j < (lvs M (L.take i)).length by omega)
    have hv : (lvs M (L.take i)).getD j 0 = lev M (L.getD j d0).Id := by
      unfold lvs
      rw [List.getD_eq_getElem?_getD, List.getElem?_map, List.getElem?_take_of_lt hj, List.getElem?_eq_getElem (by omega : j < L.length), List.getD_eq_getElem?_getD, List.getElem?_eq_getElem (by omega : j < L.length)]
      rfl
    have htk := take_succ_getD L d0 (show j < L.length by omega)
    rw [hv] at hgl
    generalize L.getD j d0 = y at hgj hgl htk
    have hlb := lev_bound hM y.Id
    refine ⟨_, ?_, rfl⟩
    rw [htk, List.map_append, List.foldl_append]
    generalize ((L.take j).map fun n => n.Id).foldl (lvS M (par M x.Id)) 0 = acc
    show _ = some (Sum.inl (lvS M (par M x.Id) acc y.Id, ((j + 1 : Nat) : Int)))
    unfold ref07_Graph_Level_L1 lvS
    simp only [c0, c1, cond_true, nn, Bool.and_self, chkO_true]
    rw [hgi, bind_s, hgj, bind_s, ← hP, has_eq _ _ (by omega), bind_s, hgl, wrap64 (n := (j : Int) + 1) (by omega) (by omega)]
    cases (par M x.Id).contains y.Id
    · rfl
    · simp only [cond_true]
      rw [bind_s, wrap64 (by omega) (by omega)]
      rfl
  · rintro _ rfl
    refine ⟨_, ?_, rfl⟩
    have e : ((L.take i).map fun n => n.Id).foldl (lvS M (par M x.Id)) 0 = lev M x.Id := by
      rw [hM.lv _ hhx]
      refine lvS_all _ _ fun q hq => ?_
      obtain ⟨j, hj, rfl⟩ := hbel hq
      exact map_take_mem hj (by omega)
    unfold ref07_Graph_Level_L1
    simp only [Int.lt_irrefl, decide_false, cond_false, e]
theorem refLevel_eq {L : List api_Node} {M : GM} (h : Mir L M) (hM : OkG M) (hl : L.length ≤ 10000) (x : Int) : ref07_Graph_Level ⟨L⟩ x = some (levO M x) := by
  have key : (mhasT x M = true ∧ loopF (ref07_Graph_Level_L2 ⟨L⟩ x) ((0 : Int), []) = some (.inr (lev M x))) ∨ (mhasT x M = false ∧ loopF (ref07_Graph_Level_L2 ⟨L⟩ x) ((0 : Int), []) = some (.inl ())) := by
    refine loopF_inv (body := ref07_Graph_Level_L2 ⟨L⟩ x) L.length (fun i s => s = ((i : Int), lvs M (L.take i)) ∧ ∀ n ∈ L.take i, n.Id ≠ x) (fun r => (mhasT x M = true ∧ r = some (.inr (lev M x))) ∨ (mhasT x M = false ∧ r = some (.inl ()))) ?_ ?_ ⟨rfl, fun n hn => by simp at hn⟩
    · rintro i _ hi ⟨rfl, h1⟩
      have c0 : decide ((i : Int) < ((L.length : Nat) : Int)) = true := decide_eq_true (by omega)
      have hlen : (lvs M (L.take i)).length = i := by unfold lvs; rw [List.length_map, List.length_take]; omega
      have htk : lvs M (L.take (i + 1)) = lvs M (L.take i) ++ [lev M (L.getD i d0).Id] := by
        unfold lvs
        rw [take_succ_getD L d0 hi, List.map_append]
        rfl
      have hb : ref07_Graph_Level_L2 ⟨L⟩ x ((i : Int), lvs M (L.take i)) = bif (L.getD i d0).Id == x then some (.inr (.inr (lev M (L.getD i d0).Id))) else some (.inl ((i : Int) + 1, lvs M (L.take (i + 1)))) := by
        unfold ref07_Graph_Level_L2
        simp only [c0, cond_true]
        rw [level_inner h hM hl hi, seqF_l, chk_true (decide_eq_true (by simp; omega)), getI_in d0 hi, bind_s, wrap64 (by omega) (by omega), htk]
        cases (L.getD i d0).Id == x <;> rfl
      rw [hb]
      cases hc : (L.getD i d0).Id == x
      · left
        refine ⟨_, rfl, rfl, fun n hn => ?_⟩
        rw [take_succ_getD L d0 hi, List.mem_append, List.mem_singleton] at hn
        rcases hn with hn | rfl
        · exact h1 n hn
        · simpa using hc
      · right
        have hc : (L.getD i d0).Id = x := by simpa using hc
        refine ⟨_, rfl, Or.inl ⟨(h.has x).2 ⟨_, get_mem hi, hc⟩, by rw [hc]⟩⟩
    · rintro _ ⟨rfl, h1⟩
      rw [List.take_length] at h1
      refine ⟨_, ?_, Or.inr ⟨?_, rfl⟩⟩
      · unfold ref07_Graph_Level_L2
        simp only [Int.lt_irrefl, decide_false, cond_false]
      · rw [← Bool.not_eq_true, h.has]
        rintro ⟨n, hn, he⟩
        exact h1 n hn he
  unfold ref07_Graph_Level levO
  rcases key with ⟨h1, h2⟩ | ⟨h1, h2⟩
  · rw [h2, seqF_r, h1]
    rfl
  · rw [h2, seqF_l, h1]
    rfl
end Go.Proofs.Ytlgadmholjaljaa
namespace Go.Proofs.Ytlgadmholjaljaa
open Go.RowKit Go.Sort
theorem getD_set (l : List Bool) (a k : Nat) (ha : a < l.length) : (l.set a true).getD k false = (l.getD k false || k == a) := by
  rw [List.getD_eq_getElem?_getD, List.getD_eq_getElem?_getD, List.getElem?_set]
  by_cases h : a = k
  · subst h
    rw [if_pos rfl, if_pos ha]
    simp
  · have : (k == a) = false := by simp; omega
    rw [if_neg h, this, Bool.or_false]
theorem contains_succ (P : List Int) (x : Int) {j : Nat} (h : j < P.length) : (P.take (j + 1)).contains x = ((P.take j).contains x || x == P.getD j 0) := by
  rw [take_succ_getD _ 0 h]
  apply bool_ext
  simp
theorem down_L1 {L : List api_Node} {M : GM} (h : Mir L M) (hM : OkG M) (hl : L.length ≤ 10000) {i : Nat} (hi : i < L.length) (in0 : List Bool) (hin : in0.length = L.length) (w : List Bool) :
    ∃ inn, loopF (ref07_Graph_Down_L1 ((i : Int), w) ⟨L⟩) ((0 : Int), in0) = some (.inl inn) ∧ inn.length = L.length ∧ ∀ k, k < L.length → inn.getD k false = (in0.getD k false || (in0.getD i false && (par M (L.getD i d0).Id).contains (L.getD k d0).Id)) := by
  have hgi := getI_in d0 hi
  have hP := h.par _ (get_mem hi)
  have hpl := par_len hM (L.getD i d0).Id
  cases hb : in0.getD i false
  · refine ⟨in0, ?_, hin, fun k hk => by simp⟩
    refine loopF_stop ?_
    have c0 : decide ((i : Int) < ((in0.length : Nat) : Int)) = true := decide_eq_true (by omega)
    unfold ref07_Graph_Down_L1
    simp only [c0, nn, Bool.and_self, chkO_true]
    rw [getI_in false (show i < in0.length by omega), bind_s, hb]
    rfl
  · have hpar := fun {q : Int} (hq : q ∈ par M (L.getD i d0).Id) => (par_lt hM hq).2.1
    generalize L.getD i d0 = x at hgi hP hpl hpar
    refine loopF_inv (body := ref07_Graph_Down_L1 ((i : Int), w) ⟨L⟩) (par M x.Id).length (fun j s => ∃ inn : List Bool, s = ((j : Int), inn) ∧ inn.length = L.length ∧ ∀ k, k < L.length → inn.getD k false = (in0.getD k false || ((par M x.Id).take j).contains (L.getD k d0).Id))
      (fun r => ∃ inn, r = some (.inl inn) ∧ inn.length = L.length ∧ ∀ k, k < L.length → inn.getD k false = (in0.getD k false || (true && (par M x.Id).contains (L.getD k d0).Id))) ?_ ?_ ⟨in0, rfl, hin, fun k hk => by simp⟩
    · rintro j _ hj ⟨inn, rfl, h1, h2⟩
      left
      have c0 : decide ((i : Int) < ((inn.length : Nat) : Int)) = true := decide_eq_true (by omega)
      have hbi : inn.getD i false = true := by rw [h2 i hi, hb]; rfl
      have c1 : decide ((j : Int) < ((x.Parents.length : Nat) : Int)) = true := decide_eq_true (by rw [← hP]; omega)
      have hgj := getI_in 0 hj
      rw [hP] at hgj
      have hq := getD_mem hj
      have hcs := fun y => contains_succ (par M x.Id) y hj
      rw [← hP] at hgj
      generalize (par M x.Id).getD j 0 = q at hgj hq hcs
      obtain ⟨a, k1, k2, k3⟩ := at_has h hl (hpar hq)
      have e1 : (if (a : Int) < (0 : Int) then (0 : Int) else (a : Int)) = (a : Int) := if_neg (by omega)
      have c2 : decide ((a : Int) < ((inn.length : Nat) : Int)) = true := decide_eq_true (by omega)
      refine ⟨_, ?_, inn.set a true, rfl, by rw [List.length_set]; exact h1, fun k hk => ?_⟩
      · unfold ref07_Graph_Down_L1
        simp only [c0, nn, Bool.and_self, chkO_true]
        rw [getI_in false (show i < inn.length by omega), bind_s, hbi, cond_true, hgi, bind_s, c1, cond_true, ← hP, hgj, bind_s, k3, bind_s]
        simp only [e1, c2, nn, Bool.and_self, chkO_true]
        rw [getI_in false (show a < inn.length by omega), bind_s, wrap64 (by omega) (by omega)]
        rfl
      · rw [getD_set _ _ _ (by omega), h2 k hk, hcs, Bool.or_assoc]
        congr 2
        apply bool_ext
        rw [beq_iff_eq, beq_iff_eq]
        constructor
        · rintro rfl
          exact k2
        · intro e
          exact h.inj hk k1 (e.trans k2.symm)
    · rintro _ ⟨inn, rfl, h1, h2⟩
      rw [List.take_length] at h2
      have c0 : decide ((i : Int) < ((inn.length : Nat) : Int)) = true := decide_eq_true (by omega)
      have hbi : inn.getD i false = true := by rw [h2 i hi, hb]; rfl
      refine ⟨.inl inn, ?_, inn, rfl, h1, fun k hk => by rw [h2 k hk, Bool.true_and]⟩
      unfold ref07_Graph_Down_L1
      simp only [c0, nn, Bool.and_self, chkO_true]
      rw [getI_in false (show i < inn.length by omega), bind_s, hbi, cond_true, hgi, bind_s, ← hP]
      simp only [Int.lt_irrefl, decide_false, cond_false]
structure RD (M : GM) (L : List api_Node) (S : List Int) (i : Nat) (inn : List Bool) : Prop where
  len : inn.length = L.length
  snd : ∀ k, k < L.length → inn.getD k false = true → Rch M S (L.getD k d0).Id
  bas : ∀ k, k < L.length → i ≤ k → (L.getD k d0).Id ∈ S → inn.getD k false = true
  cl : ∀ m, m < L.length → i ≤ m → inn.getD m false = true → ∀ k, k < L.length → (L.getD k d0).Id ∈ Go.Proofs.Ytlgadmholjaljaa.par M (L.getD m d0).Id → inn.getD k false = true
theorem RD.step {L : List api_Node} {M : GM} (h : Mir L M) (hM : OkG M) {S : List Int} {i : Nat} (hi : i < L.length) {inn inn1 inn2 : List Bool} (hR : RD M L S (i + 1) inn)
    (h1 : ∀ k, k < L.length → inn1.getD k false = (inn.getD k false || (S.contains (L.getD i d0).Id && k == i))) (hl2 : inn2.length = L.length)
    (h2 : ∀ k, k < L.length → inn2.getD k false = (inn1.getD k false || (inn1.getD i false && (Go.Proofs.Ytlgadmholjaljaa.par M (L.getD i d0).Id).contains (L.getD k d0).Id))) : RD M L S i inn2 := by
  have s1 : ∀ k, k < L.length → inn1.getD k false = true → Rch M S (L.getD k d0).Id := fun k hk hb => by
    rw [h1 k hk, Bool.or_eq_true, Bool.and_eq_true, beq_iff_eq, List.contains_iff_mem] at hb
    rcases hb with hb | ⟨hb, rfl⟩
    · exact hR.snd k hk hb
    · exact .base hb ((h.has _).2 ⟨_, get_mem hk, rfl⟩)
  have up1 : ∀ k, k < L.length → inn.getD k false = true → inn1.getD k false = true := fun k hk hb => by rw [h1 k hk, hb]; rfl
  have up2 : ∀ k, k < L.length → inn1.getD k false = true → inn2.getD k false = true := fun k hk hb => by rw [h2 k hk, hb]; rfl
  refine ⟨hl2, fun k hk hb => ?_, fun k hk hik hS => ?_, fun m hm him hb k hk hp => ?_⟩
  · rw [h2 k hk, Bool.or_eq_true, Bool.and_eq_true, List.contains_iff_mem] at hb
    rcases hb with hb | ⟨hb, hp⟩
    · exact s1 k hk hb
    · exact .step (s1 i hi hb) hp
  · by_cases he : k = i
    · subst he
      refine up2 k hk ?_
      rw [h1 k hk, List.contains_iff_mem.2 hS]
      simp
    · exact up2 k hk (up1 k hk (hR.bas k hk (by omega) hS))
  · by_cases he : m = i
    · subst he
      have hb1 : inn1.getD m false = true := by
        rw [h2 m hm] at hb
        cases hq : inn1.getD m false
        · rw [hq] at hb; cases hb
        · rfl
      rw [h2 k hk, hb1, List.contains_iff_mem.2 hp]
      simp
    · have hb1 : inn.getD m false = true := by
        rw [h2 m hm, h1 m hm, Bool.or_eq_true, Bool.or_eq_true, Bool.and_eq_true, Bool.and_eq_true, List.contains_iff_mem, beq_iff_eq] at hb
        rcases hb with (hb | ⟨_, hb⟩) | ⟨_, hb⟩
        · exact hb
        · exact absurd hb he
        · have k1 := (par_lt hM (List.contains_iff_mem.1 hb)).2.2.1
          have k2 := h.lt (show i < m by omega) hm
          omega
      exact up2 k hk (up1 k hk (hR.cl m hm (by omega) hb1 k hk hp))
theorem down_L2 {L : List api_Node} {M : GM} (h : Mir L M) (hM : OkG M) (hl : L.length ≤ 10000) {S : List Int} (hS : S.length ≤ 10000) :
    ∃ inn, loopF (ref07_Graph_Down_L2 ⟨L⟩ S) ((L.length : Int) - 1, List.replicate L.length false) = some (.inl inn) ∧ RD M L S 0 inn := by
  refine loopF_inv (body := ref07_Graph_Down_L2 ⟨L⟩ S) L.length (fun c s => ∃ inn, s = (((L.length - c : Nat) : Int) - 1, inn) ∧ RD M L S (L.length - c) inn) (fun r => ∃ inn, r = some (.inl inn) ∧ RD M L S 0 inn) ?_ ?_ ⟨List.replicate L.length false, rfl, ?_⟩
  · rintro c _ hc ⟨inn, rfl, hR⟩
    left
    have e0 : L.length - c = (L.length - (c + 1)) + 1 := by omega
    have hi : L.length - (c + 1) < L.length := by omega
    rw [e0] at hR ⊢
    generalize L.length - (c + 1) = i at hi hR ⊢
    have e1 : ((i + 1 : Nat) : Int) - 1 = (i : Int) := by omega
    rw [e1]
    have hlen := hR.len
    have c0 : decide ((i : Int) < ((inn.length : Nat) : Int)) = true := decide_eq_true (by omega)
    have hset : (bif S.contains (L.getD i d0).Id then inn.set i true else inn).length = L.length := by cases S.contains (L.getD i d0).Id <;> simp [hlen]
    obtain ⟨inn2, k1, k2, k3⟩ := down_L1 h hM hl hi (bif S.contains (L.getD i d0).Id then inn.set i true else inn) hset inn
    refine ⟨_, ?_, inn2, rfl, hR.step h hM hi (inn1 := bif S.contains (L.getD i d0).Id then inn.set i true else inn) (fun k hk => ?_) k2 k3⟩
    · have hw : IntKind.i64.wrap ((i : Int) - 1) = (i : Int) - 1 := wrap64 (by omega) (by omega)
      unfold ref07_Graph_Down_L2
      simp only [c0, nn, Bool.and_self, chkO_true, cond_true]
      rw [getI_in d0 hi, bind_s, has_eq _ _ (by omega), bind_s, hw]
      cases hb : S.contains (L.getD i d0).Id
      · rw [hb] at k1
        simp only [cond_false, seqF_l] at k1 ⊢
        rw [k1]
        rfl
      · rw [hb] at k1
        have e2 : ((i : Int)).toNat = i := by omega
        simp only [cond_true, e2] at k1 ⊢
        rw [getI_in false (show i < inn.length by omega), bind_s, seqF_l, k1]
        rfl
    · cases S.contains (L.getD i d0).Id
      · simp
      · simp only [cond_true, Bool.true_and]
        exact getD_set _ _ _ (by omega)
  · rintro _ ⟨inn, rfl, hR⟩
    rw [Nat.sub_self] at hR
    refine ⟨.inl inn, ?_, inn, rfl, hR⟩
    have c0 : decide ((0 : Int) ≤ ((L.length - L.length : Nat) : Int) - 1) = false := decide_eq_false (by omega)
    unfold ref07_Graph_Down_L2
    simp only [c0, cond_false]
  · have hf : ∀ k, (List.replicate L.length false).getD k false = false := fun k => by
      rw [List.getD_eq_getElem?_getD, List.getElem?_replicate]
      split <;> rfl
    refine ⟨by simp, fun k _ hb => ?_, fun k hk hik _ => by omega, fun m hm him _ => by omega⟩
    rw [hf] at hb
    cases hb
theorem collect_succ (L : List api_Node) (P : Int → Bool) {i : Nat} (h : i < L.length) : ((L.take (i + 1)).map fun n => n.Id).filter P = ((L.take i).map fun n => n.Id).filter P ++ bif P (L.getD i d0).Id then [(L.getD i d0).Id] else [] := by
  rw [take_succ_getD L d0 h, List.map_append, List.filter_append]
  generalize L.getD i d0 = x
  congr 1
theorem collect_len (L : List api_Node) (P : Int → Bool) (i : Nat) : (((L.take i).map fun n => n.Id).filter P).length ≤ L.length := by
  have := List.length_filter_le P ((L.take i).map fun n => n.Id)
  rw [List.length_map, List.length_take] at this
  omega
theorem Mir.map_asc {L : List api_Node} {M : GM} (h : Mir L M) : Asc (L.map fun n => n.Id) := by
  unfold Asc
  rw [List.pairwise_map]
  exact h.asc
theorem refDown_eq {L : List api_Node} {M : GM} (h : Mir L M) (hM : OkG M) (hs : Sm M) (hl : L.length ≤ 1000) {S : List Int} (hS : S.length ≤ 10000) : ref07_Graph_Down ⟨L⟩ S = some (down M S) := by
  obtain ⟨inn, k1, k2⟩ := down_L2 h hM (by omega) hS
  have hlen := k2.len
  have hiff : ∀ k, k < L.length → inn.getD k false = (down M S).contains (L.getD k d0).Id := fun k hk => by
    have hcl : ∀ x, Rch M S x → ∀ k, k < L.length → (L.getD k d0).Id = x → inn.getD k false = true := by
      intro x hr
      induction hr with
      | base hi _ =>
        rintro k hk rfl
        exact k2.bas k hk (by omega) hi
      | step hr hx ih =>
        rintro k hk rfl
        obtain ⟨n, hn, he⟩ := (h.has _).1 (hr.has hM)
        obtain ⟨m, hm, rfl⟩ := mem_get hn
        exact k2.cl m hm (by omega) (ih m hm he) k hk (by rw [he]; exact hx)
    apply bool_ext
    rw [List.contains_iff_mem, down_mem hM hs hS]
    exact ⟨k2.snd k hk, fun hr => hcl _ hr k hk rfl⟩
  unfold ref07_Graph_Down
  have c1 : (decide (0 ≤ (L.length : Int)) && decide ((L.length : Int) ≤ 1000000)) = true := by simp; omega
  have e1 : IntKind.i64.wrap ((L.length : Int) - 1) = (L.length : Int) - 1 := wrap64 (by omega) (by omega)
  have e2 : ((L.length : Int)).toNat = L.length := by omega
  simp only [c1, chkO_true, e1, e2]
  rw [k1, seqF_l]
  have hcol : loopF (ref07_Graph_Down_L3 ⟨L⟩ inn) ((0 : Int), []) = some (.inl ((L.map fun n => n.Id).filter fun x => (down M S).contains x)) := by
    refine loopF_inv (body := ref07_Graph_Down_L3 ⟨L⟩ inn) L.length (fun i s => s = ((i : Int), ((L.take i).map fun n => n.Id).filter fun x => (down M S).contains x)) (fun r => r = some (.inl ((L.map fun n => n.Id).filter fun x => (down M S).contains x))) ?_ ?_ rfl
    · rintro i _ hi rfl
      left
      have hcl := collect_len L (fun x => (down M S).contains x) i
      refine ⟨_, ?_, rfl⟩
      rw [collect_succ L _ hi]
      have c0 : decide ((i : Int) < ((L.length : Nat) : Int)) = true := decide_eq_true (by omega)
      have c2 : decide ((i : Int) < ((inn.length : Nat) : Int)) = true := decide_eq_true (by omega)
      unfold ref07_Graph_Down_L3
      simp only [c0, c2, cond_true, nn, Bool.and_self, chkO_true]
      rw [getI_in false (show i < inn.length by omega), bind_s, hiff i hi, wrap64 (by omega) (by omega)]
      cases (down M S).contains (L.getD i d0).Id
      · simp only [cond_false, List.append_nil]
        rfl
      · simp only [cond_true]
        rw [getI_in d0 hi, bind_s, chk_true (decide_eq_true (by simp only [List.length_singleton]; omega))]
        rfl
    · rintro _ rfl
      refine ⟨_, ?_, rfl⟩
      unfold ref07_Graph_Down_L3
      simp only [Int.lt_irrefl, decide_false, cond_false, List.take_length]
  rw [hcol, seqF_l]
  congr 1
  refine asc_ext (asc_filter h.map_asc _) (down_asc hM hs hS) fun x => ?_
  rw [List.mem_filter, h.ids, List.contains_iff_mem]
  exact ⟨fun h => h.2, fun hx => ⟨((down_mem hM hs hS x).1 hx).has hM, hx⟩⟩
theorem refPast_eq {L : List api_Node} {M : GM} (h : Mir L M) (hM : OkG M) (hs : Sm M) (hl : L.length ≤ 1000) (x : Int) : ref07_Graph_Past ⟨L⟩ x = some (past M x) := by
  have := hs.par x
  unfold ref07_Graph_Past
  rw [refParZ_eq h (by omega), bind_s, refDown_eq h hM hs hl (by omega)]
  rfl
theorem refBefore_eq {L : List api_Node} {M : GM} (h : Mir L M) (hM : OkG M) (hs : Sm M) (hl : L.length ≤ 1000) (a b : Int) : ref07_Graph_Before ⟨L⟩ a b = some ((past M b).contains a) := by
  have := past_len hM hs b
  unfold ref07_Graph_Before
  rw [refPast_eq h hM hs hl, bind_s, has_eq _ _ (by omega)]
  rfl
end Go.Proofs.Ytlgadmholjaljaa
namespace Go.Proofs.Ytlgadmholjaljaa
open Go.RowKit Go.Sort
/- heads -/
theorem heads_inner {L : List api_Node} {M : GM} (h : Mir L M) (hM : OkG M) (hl : L.length ≤ 10000) {i : Nat} (hi : i < L.length) (out : List Int) :
    loopF (ref07_Graph_Heads_L1 ⟨L⟩ ((i : Int), out)) (true, (0 : Int)) = some (.inl (L.all fun m => !m.Parents.contains (L.getD i d0).Id)) := by
  have hgi := getI_in d0 hi
  generalize L.getD i d0 = x at hgi
  refine loopF_inv (body := ref07_Graph_Heads_L1 ⟨L⟩ ((i : Int), out)) L.length (fun j s => s = ((L.take j).all (fun m => !m.Parents.contains x.Id), (j : Int))) (fun r => r = some (.inl (L.all fun m => !m.Parents.contains x.Id))) ?_ ?_ rfl
  · rintro j _ hj rfl
    left
    have c0 : decide ((j : Int) < ((L.length : Nat) : Int)) = true := decide_eq_true (by omega)
    have hgj := getI_in d0 hj
    have hmj := get_mem hj
    have e : (L.take (j + 1)).all (fun m => !m.Parents.contains x.Id) = ((L.take j).all (fun m => !m.Parents.contains x.Id) && !(L.getD j d0).Parents.contains x.Id) := by
      rw [take_succ_getD L d0 hj, List.all_append]
      simp
    refine ⟨_, ?_, rfl⟩
    rw [e]
    generalize L.getD j d0 = y at hgj hmj
    have hpl := par_len hM y.Id
    rw [h.par y hmj] at hpl
    unfold ref07_Graph_Heads_L1
    simp only [c0, cond_true]
    rw [hgj, bind_s, hgi, bind_s, has_eq _ _ (by omega), bind_s, wrap64 (by omega) (by omega)]
    cases (L.take j).all (fun m => !m.Parents.contains x.Id) <;> rfl
  · rintro _ rfl
    refine ⟨_, ?_, rfl⟩
    unfold ref07_Graph_Heads_L1
    simp only [Int.lt_irrefl, decide_false, cond_false, List.take_length]
theorem refHeads_eq {L : List api_Node} {M : GM} (h : Mir L M) (hM : OkG M) (hl : L.length ≤ 1000) : ref07_Graph_Heads ⟨L⟩ = some (headsP M) := by
  have hcol : loopF (ref07_Graph_Heads_L2 ⟨L⟩) ((0 : Int), []) = some (.inl ((L.map fun n => n.Id).filter fun x => L.all fun m => !m.Parents.contains x)) := by
    refine loopF_inv (body := ref07_Graph_Heads_L2 ⟨L⟩) L.length (fun i s => s = ((i : Int), ((L.take i).map fun n => n.Id).filter fun x => L.all fun m => !m.Parents.contains x)) (fun r => r = some (.inl ((L.map fun n => n.Id).filter fun x => L.all fun m => !m.Parents.contains x))) ?_ ?_ rfl
    · rintro i _ hi rfl
      left
      have hcl := collect_len L (fun x => L.all fun m => !m.Parents.contains x) i
      refine ⟨_, ?_, rfl⟩
      rw [collect_succ L _ hi]
      have c0 : decide ((i : Int) < ((L.length : Nat) : Int)) = true := decide_eq_true (by omega)
      unfold ref07_Graph_Heads_L2
      simp only [c0, cond_true]
      rw [heads_inner h hM (by omega) hi, seqF_l, wrap64 (by omega) (by omega)]
      cases L.all fun m => !m.Parents.contains (L.getD i d0).Id
      · simp only [cond_false, List.append_nil]
        rfl
      · simp only [cond_true]
        rw [getI_in d0 hi, bind_s, chk_true (decide_eq_true (by simp only [List.length_singleton]; omega))]
        rfl
    · rintro _ rfl
      refine ⟨_, ?_, rfl⟩
      unfold ref07_Graph_Heads_L2
      simp only [Int.lt_irrefl, decide_false, cond_false, List.take_length]
  unfold ref07_Graph_Heads
  rw [hcol, seqF_l]
  congr 1
  refine asc_ext (asc_filter h.map_asc _) (headsP_asc hM) fun x => ?_
  rw [List.mem_filter, h.ids, headsP_mem hM, List.all_eq_true]
  refine and_congr_right fun hx => ?_
  constructor
  · intro h1 y hy hq
    obtain ⟨n, hn, rfl⟩ := (h.has y).1 hy
    have := h1 n hn
    rw [Bool.not_eq_true', ← Bool.not_eq_true, List.contains_iff_mem, ← h.par n hn] at this
    exact this hq
  · intro h1 n hn
    rw [Bool.not_eq_true', ← Bool.not_eq_true, List.contains_iff_mem, ← h.par n hn]
    exact h1 n.Id ((h.has _).2 ⟨n, hn, rfl⟩)
/- parts -/
theorem part_has' {M : GM} {l : List Int} {x : Int} : mhasT x (partP M l) = true ↔ x ∈ l := by rw [partP_has, List.contains_iff_mem]
theorem part_par (M : GM) {l : List Int} {x : Int} (h : x ∈ l) : par (partP M l) x = par M x := by unfold par; rw [partP_get M l h]
theorem refRestrict_eq {L : List api_Node} {M : GM} (h : Mir L M) (hM : OkG M) (hs : Sm M) (hl : L.length ≤ 1000) {S : List Int} (hS : S.length ≤ 10000) :
    ∃ L', ref07_Graph_Restrict ⟨L⟩ S = some ⟨L'⟩ ∧ Mir L' (partP M (down M S)) ∧ L'.length ≤ L.length := by
  have hd : (down M S).length ≤ 1000 := by
    have := sub_len (a := down M S) (b := M.map Prod.fst) ((down_asc hM hs hS).imp fun h => by omega) fun y hy => (mhas_iff _ _).1 (((down_mem hM hs hS y).1 hy).has hM)
    rw [List.length_map] at this
    have := hs.len
    omega
  have hcol : loopF (ref07_Graph_Restrict_L1 ⟨L⟩ (down M S)) ((0 : Int), []) = some (.inl (L.filter fun n => (down M S).contains n.Id)) := by
    refine loopF_inv (body := ref07_Graph_Restrict_L1 ⟨L⟩ (down M S)) L.length (fun i s => s = ((i : Int), (L.take i).filter fun n => (down M S).contains n.Id)) (fun r => r = some (.inl (L.filter fun n => (down M S).contains n.Id))) ?_ ?_ rfl
    · rintro i _ hi rfl
      left
      have hcl : ((L.take i).filter fun n => (down M S).contains n.Id).length ≤ 1000 := by
        have := List.length_filter_le (fun n : api_Node => (down M S).contains n.Id) (L.take i)
        rw [List.length_take] at this
        omega
      have hsucc : ((L.take (i + 1)).filter fun n => (down M S).contains n.Id) = ((L.take i).filter fun n => (down M S).contains n.Id) ++ bif (down M S).contains (L.getD i d0).Id then [L.getD i d0] else [] := by
        rw [take_succ_getD L d0 hi, List.filter_append]
        generalize L.getD i d0 = x
        congr 1
      refine ⟨_, ?_, rfl⟩
      rw [hsucc]
      have c0 : decide ((i : Int) < ((L.length : Nat) : Int)) = true := decide_eq_true (by omega)
      unfold ref07_Graph_Restrict_L1
      simp only [c0, cond_true]
      rw [getI_in d0 hi, bind_s, has_eq _ _ (by omega), bind_s, wrap64 (by omega) (by omega)]
      cases (down M S).contains (L.getD i d0).Id
      · simp only [cond_false, List.append_nil]
        rfl
      · simp only [cond_true]
        rw [chk_true (decide_eq_true (by simp only [List.length_singleton]; omega))]
        rfl
    · rintro _ rfl
      refine ⟨_, ?_, rfl⟩
      unfold ref07_Graph_Restrict_L1
      simp only [Int.lt_irrefl, decide_false, cond_false, List.take_length]
  unfold ref07_Graph_Restrict
  rw [refDown_eq h hM hs hl hS, bind_s, hcol, seqF_l]
  refine ⟨_, rfl, ⟨h.asc.filter _, fun x => ?_, fun n hn => ?_⟩, List.length_filter_le ..⟩
  · rw [part_has']
    constructor
    · intro hx
      obtain ⟨n, hn, rfl⟩ := (h.has x).1 (((down_mem hM hs hS x).1 hx).has hM)
      exact ⟨n, List.mem_filter.2 ⟨hn, List.contains_iff_mem.2 hx⟩, rfl⟩
    · rintro ⟨n, hn, rfl⟩
      exact List.contains_iff_mem.1 (List.mem_filter.1 hn).2
  · obtain ⟨h1, h2⟩ := List.mem_filter.1 hn
    rw [part_par M (List.contains_iff_mem.1 h2)]
    exact h.par n h1
/- in order of levels -/
theorem lev_lt {L : List api_Node} {M : GM} (h : Mir L M) (hM : OkG M) : ∀ (i : Nat), i < L.length → lev M (L.getD i d0).Id ≤ i := by
  intro i
  induction i using Nat.strongRecOn with
  | ind i ih =>
    intro hi
    rw [hM.lv _ ((h.has _).2 ⟨_, get_mem hi, rfl⟩)]
    refine foldl_up_le _ _ (by omega) fun q hq => ?_
    obtain ⟨j, hj, rfl⟩ := mir_below h hM hq
    have := ih j hj (by omega)
    omega
theorem sorted_L1 {L : List api_Node} {M : GM} (h : Mir L M) (hM : OkG M) (hl : L.length ≤ 100) {S : List Int} (hS : S.length ≤ 10000) (lv : Int) (w out : List Int) (ho : out.length ≤ 10000) :
    loopF (ref07_Graph_Sorted_L1 ⟨L⟩ (lv, w) S) ((0 : Int), out) = some (.inl (out ++ (L.map fun n => n.Id).filter fun x => lev M x == lv && S.contains x)) := by
  refine loopF_inv (body := ref07_Graph_Sorted_L1 ⟨L⟩ (lv, w) S) L.length (fun i s => s = ((i : Int), out ++ ((L.take i).map fun n => n.Id).filter fun x => lev M x == lv && S.contains x)) (fun r => r = some (.inl (out ++ (L.map fun n => n.Id).filter fun x => lev M x == lv && S.contains x))) ?_ ?_ (by simp)
  · rintro i _ hi rfl
    left
    have hcl := collect_len L (fun x => lev M x == lv && S.contains x) i
    refine ⟨_, ?_, rfl⟩
    rw [collect_succ L _ hi]
    have c0 : decide ((i : Int) < ((L.length : Nat) : Int)) = true := decide_eq_true (by omega)
    have hhx : mhasT (L.getD i d0).Id M = true := (h.has _).2 ⟨_, get_mem hi, rfl⟩
    unfold ref07_Graph_Sorted_L1
    simp only [c0, cond_true]
    rw [getI_in d0 hi, bind_s, refLevel_eq h hM (by omega), bind_s, levO_in hhx, has_eq _ _ (by omega), bind_s, wrap64 (by omega) (by omega)]
    cases lev M (L.getD i d0).Id == lv
    · simp only [cond_false, Bool.false_and, List.append_nil]
      rfl
    · simp only [cond_true, Bool.true_and]
      cases S.contains (L.getD i d0).Id
      · simp only [cond_false, List.append_nil]
        rfl
      · simp only [cond_true]
        rw [chk_true (decide_eq_true (by rw [List.length_append]; simp only [List.length_singleton]; omega)), List.append_assoc]
        rfl
  · rintro _ rfl
    refine ⟨_, ?_, rfl⟩
    unfold ref07_Graph_Sorted_L1
    simp only [Int.lt_irrefl, decide_false, cond_false, List.take_length]
theorem refSorted_eq {L : List api_Node} {M : GM} (h : Mir L M) (hM : OkG M) (hl : L.length ≤ 50) {S : List Int} (hS : S.length ≤ 10000) : ref07_Graph_Sorted ⟨L⟩ S = some (sortedP M S) := by
  have hcol : ∃ out, loopF (ref07_Graph_Sorted_L2 ⟨L⟩ S) ((0 : Int), []) = some (.inl out) ∧ LAsc M out ∧ ∀ x, x ∈ out ↔ (mhasT x M = true ∧ x ∈ S ∧ lev M x < (L.length : Int)) := by
    refine loopF_inv (body := ref07_Graph_Sorted_L2 ⟨L⟩ S) L.length (fun i s => ∃ out, s = ((i : Int), out) ∧ LAsc M out ∧ (∀ x, x ∈ out ↔ (mhasT x M = true ∧ x ∈ S ∧ lev M x < (i : Int))) ∧ out.length ≤ i * 50)
      (fun r => ∃ out, r = some (.inl out) ∧ LAsc M out ∧ ∀ x, x ∈ out ↔ (mhasT x M = true ∧ x ∈ S ∧ lev M x < (L.length : Int))) ?_ ?_ ⟨[], rfl, List.Pairwise.nil, fun x => ⟨(fun hx => by cases hx), (fun hx => by have := (lev_bound hM x).1; omega)⟩, by simp⟩
    · rintro i _ hi ⟨out, rfl, h1, h2, h3⟩
      left
      have c0 : decide ((i : Int) < ((L.length : Nat) : Int)) = true := decide_eq_true (by omega)
      have hnew := collect_len L (fun x => lev M x == (i : Int) && S.contains x) L.length
      rw [List.take_length] at hnew
      have hmem : ∀ x, x ∈ ((L.map fun n => n.Id).filter fun x => lev M x == (i : Int) && S.contains x) ↔ (mhasT x M = true ∧ x ∈ S ∧ lev M x = (i : Int)) := fun x => by
        rw [List.mem_filter, h.ids, Bool.and_eq_true, beq_iff_eq, List.contains_iff_mem]
        exact and_congr_right fun _ => And.comm
      refine ⟨_, ?_, out ++ (L.map fun n => n.Id).filter (fun x => lev M x == (i : Int) && S.contains x), rfl, ?_, fun x => ?_, by rw [List.length_append]; omega⟩
      · unfold ref07_Graph_Sorted_L2
        simp only [c0, cond_true]
        rw [sorted_L1 h hM (by omega) hS _ _ _ (by omega), seqF_l, wrap64 (by omega) (by omega)]
        rfl
      · unfold LAsc
        rw [List.pairwise_append]
        refine ⟨h1, ?_, fun a ha b hb => ?_⟩
        · have h4 : ((L.map fun n => n.Id).filter fun x => lev M x == (i : Int) && S.contains x).Pairwise fun a b => a < b := asc_filter h.map_asc _
          refine List.Pairwise.imp_of_mem (R := fun a b => a < b) (fun {a b} ha hb hab => ?_) h4
          rw [hmem] at ha hb
          rw [ltG_iff]
          omega
        · rw [h2] at ha
          rw [hmem] at hb
          rw [ltG_iff]
          omega
      · rw [List.mem_append, h2, hmem]
        constructor
        · rintro (⟨k1, k2, k3⟩ | ⟨k1, k2, k3⟩)
          · exact ⟨k1, k2, by omega⟩
          · exact ⟨k1, k2, by omega⟩
        · rintro ⟨k1, k2, k3⟩
          rcases Int.lt_or_eq_of_le (show lev M x ≤ (i : Int) by omega) with k | k
          · exact Or.inl ⟨k1, k2, k⟩
          · exact Or.inr ⟨k1, k2, k⟩
    · rintro _ ⟨out, rfl, h1, h2, _⟩
      refine ⟨.inl out, ?_, out, rfl, h1, h2⟩
      unfold ref07_Graph_Sorted_L2
      simp only [Int.lt_irrefl, decide_false, cond_false]
  obtain ⟨out, k1, k2, k3⟩ := hcol
  unfold ref07_Graph_Sorted
  rw [k1, seqF_l]
  congr 1
  refine lasc_ext (M := M) k2 (sortedP_asc hM (by omega)) fun x => ?_
  rw [k3, sortedP_mem hM (by omega)]
  constructor
  · rintro ⟨a1, a2, _⟩
    exact ⟨a2, a1⟩
  · rintro ⟨a1, a2⟩
    refine ⟨a2, a1, ?_⟩
    obtain ⟨n, hn, rfl⟩ := (h.has x).1 a2
    obtain ⟨i, hi, rfl⟩ := mem_get hn
    have := lev_lt h hM i hi
    omega
end Go.Proofs.Ytlgadmholjaljaa
