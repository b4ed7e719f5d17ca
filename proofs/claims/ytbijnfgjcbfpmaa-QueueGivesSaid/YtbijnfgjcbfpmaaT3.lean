/-
  QueueGives, as plain law.
-/
import Derived.Test.YtbijnfgjcbfpmaaVA
import Derived.Test.YtbijnfgjcbfpmaaH3
namespace Go.Proofs.Ytbijnfgjcbfpmaa
open Go.RowKit
theorem gives_L1 (l : List api_Waiting) (hl : l.length ≤ 1000) (net : Int) (at_ : Int) (i : Nat) (hi : i < l.length) (y : List Int × List api_Waiting) (hy : y.1.length ≤ 1000) (at2 left : Int)
    (h : ∀ k : Nat, k < l.length → (l.getD k w0).Net = net → ltW (l.getD k w0) (l.getD i w0) = true → (y.1.any (fun e => e == (l.getD k w0).Event) && (l.getD k w0).Net == net) = true) :
    loopF (law30_QueueGives_L1 l net (at_, (i : Int)) y (at2, left)) 0 = some (.inl at2) := by
  refine loopF_inv (body := law30_QueueGives_L1 l net (at_, (i : Int)) y (at2, left)) l.length (fun k s => s = (k : Int)) (fun r => r = some (.inl at2)) ?_ ?_ (s0 := (0 : Int)) rfl
  · rintro k s hk rfl
    left
    refine ⟨_, ?_, rfl⟩
    have c1 : decide ((k : Int) < (l.length : Int)) = true := by simp; omega
    unfold law30_QueueGives_L1
    simp only [c1, cond_true]
    rw [bind_some_of (getI_in w0 hk), bind_some_of (getI_in w0 hi), first_eq, bind_some_of rfl, law_has_eq _ hy, bind_some_of rfl, wrap64 (by omega) (by omega)]
    cases hn : (l.getD k w0).Net == net
    · rfl
    · cases hb : ltW (l.getD k w0) (l.getD i w0)
      · rfl
      · have := h k hk (by simpa using hn) hb
        rw [hn] at this
        simp only [cond_true, this, Bool.not_true, cond_false]
        rfl
  · rintro s rfl
    refine ⟨_, ?_, rfl⟩
    unfold law30_QueueGives_L1
    simp only [Int.lt_irrefl, decide_false, cond_false]
/-- how many of the first entries stay -/
def atS (r : List api_Waiting) (i : Nat) : Int := (((r.take i).filter nz).length : Int)
theorem atS_succ {r : List api_Waiting} {i : Nat} (hi : i < r.length) : atS r (i + 1) = atS r i + bif nz (r.getD i w0) then 1 else 0 := by
  unfold atS
  rw [take_succ_getD r w0 hi, List.filter_append, List.length_append, List.filter_cons]
  cases nz (r.getD i w0) <;> simp
theorem drop_getD {r : List api_Waiting} {i : Nat} (hi : i < r.length) : r.drop i = r.getD i w0 :: r.drop (i + 1) := by
  rw [List.drop_eq_getElem_cons hi, List.getD_eq_getElem?_getD, List.getElem?_eq_getElem hi]
  rfl
/-- the entry of what stays that the law looks at -/
theorem rest_at {r : List api_Waiting} {i : Nat} (hi : i < r.length) :
    (nz (r.getD i w0) = true → (atS r i).toNat < (r.filter nz).length ∧ (r.filter nz).getD (atS r i).toNat w0 = r.getD i w0) ∧
    (nz (r.getD i w0) = false → (atS r i).toNat < (r.filter nz).length → ∃ j, i < j ∧ j < r.length ∧ (r.filter nz).getD (atS r i).toNat w0 = r.getD j w0) := by
  have hs : r.filter nz = (r.take i).filter nz ++ (r.drop i).filter nz := by rw [← List.filter_append, List.take_append_drop]
  have ha : (atS r i).toNat = ((r.take i).filter nz).length := by unfold atS; omega
  rw [drop_getD hi, List.filter_cons] at hs
  constructor
  · intro h
    rw [if_pos h] at hs
    rw [ha, hs]
    refine ⟨by simp, ?_⟩
    rw [List.getD_eq_getElem?_getD, List.getElem?_append_right (by omega), Nat.sub_self]
    rfl
  · intro h hlt
    rw [if_neg (by rw [h]; simp)] at hs
    rw [ha, hs] at hlt ⊢
    rw [List.length_append] at hlt
    rw [List.getD_eq_getElem?_getD, List.getElem?_append_right (by omega), Nat.sub_self]
    have h0 : 0 < ((r.drop (i + 1)).filter nz).length := by omega
    have hm : ((r.drop (i + 1)).filter nz)[0] ∈ r.drop (i + 1) := (List.mem_filter.1 (List.getElem_mem h0)).1
    obtain ⟨k, hk, e⟩ := List.getElem_of_mem hm
    rw [List.length_drop] at hk
    refine ⟨i + 1 + k, by omega, by omega, ?_⟩
    rw [List.getElem?_eq_getElem h0, Option.getD_some, ← e, List.getElem_drop, List.getD_eq_getElem?_getD, List.getElem?_eq_getElem (by omega)]
    rfl
theorem gives_L2 (l : List api_Waiting) (hl : l.length ≤ 1000) (hq : queueB l = true) (rate net : Int) (R : List Int × List api_Waiting) (g : GF rate net l R) :
    loopF (law30_QueueGives_L2 l (R.1, R.2.filter nz) net) ((0 : Int), (0 : Int)) = some (.inl ((R.2.filter nz).length : Int)) := by
  have hfl := List.length_filter_le nz R.2
  have hd : R.1.length ≤ 1000 := by have := g.many; omega
  refine loopF_inv (body := law30_QueueGives_L2 l (R.1, R.2.filter nz) net) l.length (fun i s => s = (atS R.2 i, (i : Int))) (fun r => r = some (.inl ((R.2.filter nz).length : Int))) ?_ ?_ (s0 := ((0 : Int), (0 : Int))) rfl
  · rintro i s hi rfl
    left
    refine ⟨(atS R.2 (i + 1), ((i + 1 : Nat) : Int)), ?_, rfl⟩
    have hir : i < R.2.length := by rw [g.len]; exact hi
    have c1 : decide ((i : Int) < (l.length : Int)) = true := by simp; omega
    obtain ⟨ra, rb⟩ := rest_at hir
    have hsucc := atS_succ hir
    have ha0 : 0 ≤ atS R.2 i := by unfold atS; omega
    have haM : atS R.2 i ≤ 1000 := by
      unfold atS
      have := List.length_filter_le nz (R.2.take i)
      rw [List.length_take] at this
      omega
    have gi := g.gave i
    have hleft := (okW_left (queue_ok hq hi)).1
    have hnz : nz (R.2.getD i w0) = !((R.2.getD i w0).Left == 0) := rfl
    have hw : IntKind.i64.wrap ((i : Int) + 1) = ((i + 1 : Nat) : Int) := by rw [wrap64 (by omega) (by omega)]; omega
    have hw2 : IntKind.i64.wrap (atS R.2 i + 1) = atS R.2 i + 1 := wrap64 (by omega) (by omega)
    unfold law30_QueueGives_L2
    simp only [c1, cond_true, hw, hw2]
    have hget : getI l (i : Int) = some (l.getD i w0) := getI_in w0 hi
    -- the entry that stays, or none
    have e1 : (bif decide (atS R.2 i < (((R.2.filter nz).length : Nat) : Int)) then (chkO (decide (0 ≤ atS R.2 i) && decide (atS R.2 i < (((R.2.filter nz).length : Nat) : Int)))).bind fun _ => (getI (R.2.filter nz) (atS R.2 i)).bind fun x1025 => (getI l (i : Int)).bind fun x1026 =>
        bif x1025.Event == x1026.Event then (some (.inl (x1025.Net == x1026.Net)) : Option (Bool ⊕ ((Int × Int) ⊕ (Int ⊕ ((Int × Int) ⊕ (Int ⊕ Bool)))))) else some (.inl false) else some (.inl false)) = some (.inl (nz (R.2.getD i w0))) := by
      cases hn : nz (R.2.getD i w0)
      · by_cases hlt : atS R.2 i < (((R.2.filter nz).length : Nat) : Int)
        · obtain ⟨j, hij, hj, e⟩ := rb hn (by omega)
          have hat : getI (R.2.filter nz) (atS R.2 i) = some (R.2.getD j w0) := by
            have := getI_in (l := R.2.filter nz) w0 (i := (atS R.2 i).toNat) (by omega)
            rw [e, show (((atS R.2 i).toNat : Nat) : Int) = atS R.2 i by omega] at this
            exact this
          have gj := g.gave j
          have hne := queue_one hq hij (by rw [← g.len]; exact hj)
          simp only [hlt, decide_true, cond_true, ha0, Bool.and_self, chkO_true]
          rw [bind_some_of hat, bind_some_of hget]
          cases he : (R.2.getD j w0).Event == (l.getD i w0).Event
          · rfl
          · cases hnn : (R.2.getD j w0).Net == (l.getD i w0).Net
            · rfl
            · exfalso
              have a := eq_of_beq he
              have b := eq_of_beq hnn
              rw [gj.event] at a
              rw [gj.net] at b
              exact hne ⟨a.symm, b.symm⟩
        · simp only [hlt, decide_false, cond_false]
      · obtain ⟨hlt, e⟩ := ra hn
        have hlt' : atS R.2 i < (((R.2.filter nz).length : Nat) : Int) := by omega
        have hat : getI (R.2.filter nz) (atS R.2 i) = some (R.2.getD i w0) := by
          have := getI_in (l := R.2.filter nz) w0 (i := (atS R.2 i).toNat) hlt
          rw [e, show (((atS R.2 i).toNat : Nat) : Int) = atS R.2 i by omega] at this
          exact this
        simp only [hlt', decide_true, cond_true, ha0, Bool.and_self, chkO_true]
        rw [bind_some_of hat, bind_some_of hget, gi.event, gi.net]
        simp only [beq_self_eq_true, cond_true]
    rw [seqF_inl e1]
    have e2 : (bif nz (R.2.getD i w0) then (chkO (decide (0 ≤ atS R.2 i) && decide (atS R.2 i < (((R.2.filter nz).length : Nat) : Int)))).bind fun _ => (getI (R.2.filter nz) (atS R.2 i)).bind fun x1029 => (getI l (i : Int)).bind fun x1033 =>
        bif x1029.Due != x1033.Due then some (.inr (.inr (.inr (.inr false)))) else (some (.inl (atS R.2 i + 1, x1029.Left)) : Option ((Int × Int) ⊕ (Int ⊕ ((Int × Int) ⊕ (Int ⊕ Bool))))) else some (.inl (atS R.2 i, (0 : Int)))) = some (.inl (atS R.2 (i + 1), (R.2.getD i w0).Left)) := by
      cases hn : nz (R.2.getD i w0)
      · rw [hn] at hsucc hnz
        have h0 : (R.2.getD i w0).Left = 0 := by simpa using hnz.symm
        rw [h0, hsucc]
        simp
      · rw [hn] at hsucc
        obtain ⟨hlt, e⟩ := ra hn
        have hlt' : atS R.2 i < (((R.2.filter nz).length : Nat) : Int) := by omega
        have hat : getI (R.2.filter nz) (atS R.2 i) = some (R.2.getD i w0) := by
          have := getI_in (l := R.2.filter nz) w0 (i := (atS R.2 i).toNat) hlt
          rw [e, show (((atS R.2 i).toNat : Nat) : Int) = atS R.2 i by omega] at this
          exact this
        simp only [hlt', decide_true, cond_true, ha0, Bool.and_self, chkO_true]
        rw [bind_some_of hat, bind_some_of hget, gi.due, hsucc]
        simp only [bne_self_eq_false, cond_false, cond_true]
    rw [seqF_inl e2]
    have hhas := g.has i hi
    have hnlt : ¬ (R.2.getD i w0).Left < 0 := by have := gi.lo; omega
    have hngt : ¬ (l.getD i w0).Left < (R.2.getD i w0).Left := by have := gi.hi; omega
    simp only [hget, Option.bind_some, law_has_eq _ hd, hhas, hnlt, hngt, decide_false, cond_false, beq_self_eq_true, Bool.not_true]
    cases hn : (l.getD i w0).Net == net
    · have ho := g.other i hi (by simpa using hn)
      have hne : ((l.getD i w0).Net != net) = true := by rw [bne, hn]; rfl
      simp only [hne, cond_true, ho, bne_self_eq_false, cond_false, seqF]
    · have hne : ((l.getD i w0).Net != net) = false := by rw [bne, hn]; rfl
      simp only [hne, cond_false, cond_true, seqF]
      cases hlt : decide ((R.2.getD i w0).Left < (l.getD i w0).Left)
      · rfl
      · simp only [cond_true]
        rw [gives_L1 l hl net _ i hi (R.1, R.2.filter nz) hd _ _ (fun k hk nk hb => by
          have h0 := g.ord i k hi hk (by simpa using hn) nk (by simpa using hlt) hb
          show (R.1.any (fun e => e == (l.getD k w0).Event) && (l.getD k w0).Net == net) = true
          rw [g.has k hk, h0]
          rfl)]
  · rintro s rfl
    refine ⟨_, ?_, rfl⟩
    unfold law30_QueueGives_L2
    simp only [Int.lt_irrefl, decide_false, cond_false]
    have : atS R.2 l.length = ((R.2.filter nz).length : Int) := by
      unfold atS
      rw [← g.len, List.take_length]
    rw [this]
theorem law30_QueueGives_true' (a0 : api_Profile) (hp : ProfOk a0) (a1 : List api_Waiting) (a2 : Int) : law30_QueueGives a0 a1 a2 = some true := by
  unfold law30_QueueGives
  rw [small_true, bind_some_of rfl, ref30_Few_eq, bind_some_of rfl]
  cases hf : (decide ((a1.length : Int) ≤ 30) && decide (a0.Window ≤ 1000) && decide ((a0.Types.length : Int) ≤ 20))
  · rfl
  · have hl : a1.length ≤ 30 := by
      simp only [Bool.and_eq_true, decide_eq_true_eq] at hf
      omega
    simp only [Bool.not_true, cond_false]
    rw [profile_Check_eq a0 hp, bind_some_of rfl]
    cases hc : chk a0 != 0
    · have hc0 : chk a0 = 0 := by simpa using hc
      have hok := chk_ok hc0
      simp only [cond_false]
      rw [ref30_Right_eq a1 (by omega), bind_some_of rfl]
      cases hq : queueB a1
      · rfl
      · simp only [Bool.not_true, cond_false]
        obtain ⟨R, h1, g⟩ := step_facts a0 a2 a1 (by omega) (by rw [profile_Check_eq a0 hp, hc0]) ⟨by have := hok.rate; omega, by have := hok.rateM; omega⟩ hq
        have hleft : ∀ w ∈ a1, 0 ≤ w.Left ∧ w.Left ≤ 1099511627776 := by
          intro w hw
          obtain ⟨j, hj, e⟩ := List.getElem_of_mem hw
          have := okW_left (queue_ok hq hj)
          rw [List.getD_eq_getElem?_getD, List.getElem?_eq_getElem hj, Option.getD_some, e] at this
          omega
        have hleft2 : ∀ w ∈ R.2.filter nz, 0 ≤ w.Left ∧ w.Left ≤ 1099511627776 := by
          intro w hw
          obtain ⟨j, hj, e⟩ := List.getElem_of_mem (List.mem_filter.1 hw).1
          have := g.gave j
          have h2 := okW_left (queue_ok hq (show j < a1.length by rw [← g.len]; exact hj))
          rw [List.getD_eq_getElem?_getD (l := R.2), List.getElem?_eq_getElem hj, Option.getD_some, e] at this
          have h3 := this.lo
          have h4 := this.hi
          omega
        have hfl := List.length_filter_le nz R.2
        have hlen := g.len
        have t1 := totalS_range a2 a1 hleft
        have t2 := totalS_range a2 (R.2.filter nz) hleft2
        rw [h1, step_down a0 a2 a1 (by omega), bind_some_of rfl, bind_some_of rfl]
        have e0 : decide ((0 : Int) < ((([] : List Int).length : Nat) : Int)) = false := rfl
        simp only [e0, cond_false]
        rw [ref30_Same_refl a1 (by omega), bind_some_of rfl]
        simp only [Bool.not_true, cond_false]
        rw [total_eq a1 (by omega) a2 hleft, total_eq (R.2.filter nz) (by omega) a2 hleft2, bind_some_of rfl, bind_some_of rfl, bind_some_of rfl, wrap64 (by omega) (by omega), g.tot]
        have e1 : (min a0.Rate (totalS a2 a1) != if totalS a2 a1 < a0.Rate then totalS a2 a1 else a0.Rate) = false := by
          have : min a0.Rate (totalS a2 a1) = if totalS a2 a1 < a0.Rate then totalS a2 a1 else a0.Rate := by
            split <;> omega
          rw [this, bne_self_eq_false]
        rw [e1]
        simp only [cond_false]
        have e2 : IntKind.i64.wrap (((R.1.length : Nat) : Int) + (((R.2.filter nz).length : Nat) : Int)) = (a1.length : Int) := by
          rw [g.many]
          exact wrap64 (by omega) (by omega)
        simp only [e2, bne_self_eq_false, cond_false]
        rw [gives_L2 a1 (by omega) hq a0.Rate a2 R g, seqF_inl rfl]
        simp only [cond_true, beq_self_eq_true]
    · rfl
theorem law30_QueueGives_true (a0 : api_Profile) (w0 : (api_Profile.Q a0)) (a1 : (List api_Waiting)) (_w1 : (a1.length ≤ maxLen ∧ ∀ u2 ∈ a1, (api_Waiting.Q u2))) (a2 : Int) (_w2 : (IntKind.i64.min ≤ a2 ∧ a2 ≤ IntKind.i64.max)) : law30_QueueGives a0 a1 a2 = some true := by
  exact law30_QueueGives_true' a0 (prof_of w0) a1 a2
end Go.Proofs.Ytbijnfgjcbfpmaa
