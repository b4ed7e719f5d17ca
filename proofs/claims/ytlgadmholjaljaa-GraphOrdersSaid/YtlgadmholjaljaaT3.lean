/-
  Layer 7, plain law: in whatever order nodes come, the graph is the same (GraphOrders).
-/
import Derived.Test.YtlgadmholjaljaaPA
import Derived.Test.YtlgadmholjaljaaH3
namespace Go.Proofs.Ytlgadmholjaljaa
open Go.RowKit Go.Sort
theorem known_sub {l l' : List api_Node} (hs : ∀ n ∈ l, n ∈ l') {M M' : GM} (h : Known l M) (h' : Known l' M') : ∀ x, mhasT x M = true → mhasT x M' = true := by
  have : ∀ (k : Nat) (x : Int), x.toNat < k → mhasT x M = true → mhasT x M' = true := by
    intro k
    induction k with
    | zero => intro x hx; omega
    | succ k ih =>
      intro x hx hm
      obtain ⟨n, h1, h2, h3⟩ := h.src x hm
      have hok := h.ok.ok x hm
      have e : (⟨x, par M x⟩ : api_Node) = n := by cases n; dsimp only at h2 h3; rw [h2, h3]
      rw [e] at hok
      have := h'.st n (hs n h1) hok fun q hq => by
        rw [h3] at hq
        obtain ⟨k1, _, _, k4⟩ := okN_facts (h.ok.ok x hm)
        have h5 : q < x := (k4 q hq).2
        have h6 : 0 ≤ q := (k4 q hq).1
        exact ih q (by omega) (h.ok.has x hm q hq)
      rw [← h2]
      exact this
  exact fun x => this (x.toNat + 1) x (by omega)
theorem id_inj {l : List api_Node} (h : (l.map fun n => n.Id).Nodup) {a b : api_Node} (ha : a ∈ l) (hb : b ∈ l) (e : a.Id = b.Id) : a = b := by
  obtain ⟨i, hi, rfl⟩ := List.getElem_of_mem ha
  obtain ⟨j, hj, rfl⟩ := List.getElem_of_mem hb
  have h1 : (l.map fun n => n.Id)[i]? = some l[i].Id := by simp [hi]
  have h2 : (l.map fun n => n.Id)[j]? = some l[j].Id := by simp [hj]
  rw [← e] at h2
  have : i = j := (List.getElem?_inj (by simpa using hi) h).1 (h1.trans h2.symm)
  subst this
  rfl
theorem known_eqv {l l' : List api_Node} (hs : ∀ n, n ∈ l ↔ n ∈ l') (hnd : (l.map fun n => n.Id).Nodup) {M M' : GM} (h : Known l M) (h' : Known l' M') : Eqv M M' := by
  have hh : ∀ x, mhasT x M = mhasT x M' := fun x => bool_ext ⟨known_sub (fun n hn => (hs n).1 hn) h h' x, known_sub (fun n hn => (hs n).2 hn) h' h x⟩
  refine eqv_of h.ok h'.ok hh fun x => ?_
  cases hx : mhasT x M
  · rw [par_no hx, par_no (by rw [← hh]; exact hx)]
  · obtain ⟨n, h1, h2, h3⟩ := h.src x hx
    obtain ⟨n', k1, k2, k3⟩ := h'.src x (by rw [← hh]; exact hx)
    have := id_inj hnd h1 ((hs n').2 k1) (h2.trans k2.symm)
    rw [← h3, ← k3, this]
theorem turn_loop {l : List api_Node} (hl : l.length ≤ 1000) : loopF (law07_GraphOrders_L2 l true) ((0 : Int), []) = some (.inr true) ∨ (loopF (law07_GraphOrders_L2 l true) ((0 : Int), []) = some (.inl l.reverse) ∧ (l.map fun n => n.Id).Nodup) := by
  refine loopF_inv (body := law07_GraphOrders_L2 l true) l.length (fun i s => s = ((i : Int), l.reverse.take i) ∧ ((l.take i).map fun n => n.Id).Nodup) (fun r => r = some (.inr true) ∨ (r = some (.inl l.reverse) ∧ (l.map fun n => n.Id).Nodup)) ?_ ?_ (s0 := ((0 : Int), [])) ⟨by simp, by simp⟩
  · rintro i _ hi ⟨rfl, hnd⟩
    have c0 : decide ((i : Int) < (l.length : Int)) = true := decide_eq_true (by omega)
    have e1 : IntKind.i64.wrap (IntKind.i64.wrap ((l.length : Int) - 1) - (i : Int)) = ((l.length - 1 - i : Nat) : Int) := by
      rw [wrap64 (n := (l.length : Int) - 1) (by omega) (by omega), wrap64 (by omega) (by omega)]
      omega
    have hg := getI_in (⟨0, []⟩ : api_Node) (show l.length - 1 - i < l.length by omega)
    have hgi := getI_in (⟨0, []⟩ : api_Node) hi
    have hrev : l.reverse.take (i + 1) = l.reverse.take i ++ [l.getD (l.length - 1 - i) ⟨0, []⟩] := by
      rw [take_succ_getD l.reverse ⟨0, []⟩ (by simpa using hi), List.getD_eq_getElem?_getD, List.getD_eq_getElem?_getD, List.getElem?_reverse hi]
    generalize hx : l.getD (l.length - 1 - i) ⟨0, []⟩ = x at hg hrev
    generalize hn : l.getD i ⟨0, []⟩ = n at hgi
    have hlen : (l.reverse.take i).length ≤ 1000 := by rw [List.length_take, List.length_reverse]; omega
    have inner : loopF (law07_GraphOrders_L1 ((i : Int), l.reverse.take i) l true x) 0 = some (.inr (.inr (.inr true))) ∨ (loopF (law07_GraphOrders_L1 ((i : Int), l.reverse.take i) l true x) 0 = some (.inl (l.reverse.take i ++ [x])) ∧ n.Id ∉ (l.take i).map fun n => n.Id) := by
      refine loopF_inv (body := law07_GraphOrders_L1 ((i : Int), l.reverse.take i) l true x) i (fun k s => s = (k : Int) ∧ n.Id ∉ (l.take k).map fun n => n.Id) (fun r => r = some (.inr (.inr (.inr true))) ∨ (r = some (.inl (l.reverse.take i ++ [x])) ∧ n.Id ∉ (l.take i).map fun n => n.Id)) ?_ ?_ ⟨rfl, by simp⟩
      · rintro k _ hk ⟨rfl, hno⟩
        have c1 : decide ((k : Int) < (i : Int)) = true := decide_eq_true (by omega)
        have hgk := getI_in (⟨0, []⟩ : api_Node) (show k < l.length by omega)
        generalize hnk : l.getD k ⟨0, []⟩ = m at hgk
        have hb : law07_GraphOrders_L1 ((i : Int), l.reverse.take i) l true x (k : Int) = bif m.Id == n.Id then some (.inr (.inr (.inr (.inr true)))) else some (.inl ((k : Int) + 1)) := by
          unfold law07_GraphOrders_L1
          simp only [c1, cond_true]
          rw [hgk, bind_s, hgi, bind_s, wrap64 (by omega) (by omega)]
        rw [hb]
        cases hq : m.Id == n.Id
        · left
          refine ⟨_, rfl, rfl, ?_⟩
          rw [take_succ_getD l ⟨0, []⟩ (by omega), hnk, List.map_append, List.mem_append]
          rintro (h | h)
          · exact hno h
          · simp only [List.map_cons, List.map_nil, List.mem_singleton] at h
            rw [h] at hq
            simp at hq
        · right
          exact ⟨_, rfl, Or.inl rfl⟩
      · rintro _ ⟨rfl, hno⟩
        refine ⟨_, ?_, Or.inr ⟨rfl, hno⟩⟩
        unfold law07_GraphOrders_L1
        simp only [Int.lt_irrefl, decide_false, cond_false]
    have hb : law07_GraphOrders_L2 l true ((i : Int), l.reverse.take i) = seqF (A := List api_Node) (loopF (law07_GraphOrders_L1 ((i : Int), l.reverse.take i) l true x) 0) fun s20 => some (.inl ((i : Int) + 1, s20)) := by
      unfold law07_GraphOrders_L2
      simp only [c0, cond_true, e1]
      rw [hg, bind_s, chk_true (by simp; omega), wrap64 (by omega) (by omega)]
    rw [hb]
    rcases inner with h | ⟨h, hno⟩
    · right
      rw [h]
      exact ⟨_, rfl, Or.inl rfl⟩
    · left
      rw [h]
      refine ⟨_, rfl, by rw [hrev]; rfl, ?_⟩
      rw [take_succ_getD l ⟨0, []⟩ hi, hn, List.map_append, List.nodup_append]
      refine ⟨hnd, by simp, fun a ha b hb => ?_⟩
      simp only [List.map_cons, List.map_nil, List.mem_singleton] at hb
      subst hb
      rintro rfl
      exact hno ha
  · rintro _ ⟨rfl, hnd⟩
    rw [List.take_length] at hnd
    have e : l.reverse.take l.length = l.reverse := List.take_of_length_le (by simp)
    refine ⟨_, ?_, Or.inr ⟨rfl, hnd⟩⟩
    unfold law07_GraphOrders_L2
    simp only [Int.lt_irrefl, decide_false, cond_false, e]
def api_Node.Q (x : api_Node) : Prop := (IntKind.i64.min ≤ x.Id ∧ x.Id ≤ IntKind.i64.max) ∧ (x.Parents.length ≤ maxLen ∧ ∀ u1 ∈ x.Parents, (IntKind.i64.min ≤ u1 ∧ u1 ≤ IntKind.i64.max))
theorem few20 (l : List api_Node) : ref07_Few l (20 : Int) = some ((l.take 21).all (fun x => decide (x.Parents.length ≤ 30)) && decide (l.length ≤ 20)) := few_eq l 20 (by decide)
theorem law07_GraphOrders_true (a0 : List api_Node) (_w0 : (a0.length ≤ maxLen ∧ ∀ u2 ∈ a0, (api_Node.Q u2))) (a1 : api_Node) (_w1 : (api_Node.Q a1)) : law07_GraphOrders a0 a1 = some true := by
  unfold law07_GraphOrders
  rw [small_true, bind_s, few20, bind_s]
  cases hf : (a0.take 21).all (fun x => decide (x.Parents.length ≤ 30)) && decide (a0.length ≤ 20)
  · rfl
  obtain ⟨hl, hp⟩ := few_spec (n := 20) hf
  simp only [Bool.not_true, cond_false]
  by_cases hm : a1.Parents.length ≤ 30
  · rw [decide_eq_false (by omega), cond_false]
    rcases turn_loop (l := a0) (by omega) with h | ⟨h, hnd⟩
    · rw [h]
      rfl
    · rw [h, seqF_l]
      obtain ⟨M, k1, k2⟩ := known_eq (l := a0) (by omega) fun n hn => by have := hp n hn; omega
      obtain ⟨M', k3, k4⟩ := known_eq (l := a0.reverse) (by rw [List.length_reverse]; omega) fun n hn => by have := hp n (List.mem_reverse.1 hn); omega
      have hE : Eqv M M' := known_eqv (fun n => List.mem_reverse.symm) hnd k2 k4
      have s1 : Sm M := k2.toFrom.sm (by omega) fun n hn => by have := hp n hn; omega
      have s2 : Sm M' := k4.toFrom.sm (by rw [List.length_reverse]; omega) fun n hn => by have := hp n (List.mem_reverse.1 hn); omega
      obtain ⟨ids, a2, a3, a4, a5, a6⟩ := all_from (l := a0) (by omega) k2.toFrom
      rw [k1, bind_s, k3, bind_s, a2, bind_s, copy_g, bind_s, len_g, bind_s, a6, bne_self_eq_false, cond_false]
      rw [alike_eqv hE k2.ok k4.ok s1 s2 (by omega), bind_s]
      simp only [Bool.not_true, cond_false]
      rw [alike_eqv (Eqv.refl M) k2.ok k2.ok s1 s1 (by omega), bind_s]
      simp only [Bool.not_true, cond_false, cond_true]
      rw [gadd_eq k2.ok a1 (by omega), bind_s, alike_eqv hE.symm k4.ok k2.ok s2 s1 (by omega)]
      rfl
  · rw [decide_eq_true (by omega), cond_true]
end Go.Proofs.Ytlgadmholjaljaa
