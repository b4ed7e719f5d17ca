/-
  The library's functions that are called: strconv.Itoa, strings.Cut, in the words of the evaluation on plain data.
-/
import Derived.Test.YtljdbikodogeiaaGreatDoorEvV
import Derived.Test.YtljdbikodogeiaaGreatDoorEvZ
import Derived.Test.YtljdbikodogeiaaGreatDoorTy
import Derived.Test.YtljdbikodogeiaaGreatDoorShelf
namespace Go.Proofs.YtljdbikodogeiaaGreatDoor
open Go.RowKit
theorem tab0 {w : World} (h : Inv w) : Lib.TabIs Tryz.prog w "internal/strconv.uint64pow10" .u64 Lib.pow10Tab := by
  obtain ⟨o, ho, T, s, rfl⟩ := h _ (List.mem_cons_self ..)
  have hg : Tryz.prog.globalNamed "internal/strconv.uint64pow10" = some 0 := by kernel_rfl
  have ho : w.heap[0]? = _ := ho
  unfold Lib.TabIs World.var?
  rw [hg, Option.bind_some, ho]
theorem tab1 {w : World} (h : Inv w) : ∃ m, w.cell? ⟨1, 0, none⟩ = some (.int .i64 m) := by
  obtain ⟨o, ho, cs, T, s, m, rfl, hm⟩ := h _ (List.mem_cons_of_mem _ (List.mem_cons_self ..))
  have ho : w.heap[1]? = _ := ho
  refine ⟨m, ?_⟩
  unfold World.cell?
  rw [ho]
  exact hm
theorem str_of {S : Nat → Prop} {w : World} {x : ByteArray} {v : Value} (h : RelD S w (.v (.string x)) v) : v = .string x := by cases h; rfl
/-- strconv.Itoa -/
noncomputable def strconv_Itoa (n_ : Int) : Option ByteArray :=
  (chkO (decide (-9223372036854775808 ≤ n_) && decide (n_ ≤ 9223372036854775807))).bind fun _ => some ⟨(Lib.itoa n_).toArray⟩
theorem strconv_Itoa_fn {dr : Prop} {n_ : Int} {r : ByteArray} (h : strconv_Itoa n_ = some r) : Fn dr Tryz.prog 87 [VI n_] (VS r) := by
  obtain ⟨hc, h⟩ := chkE_ h
  injection h with h
  subst h
  simp only [Bool.and_eq_true, decide_eq_true_eq] at hc
  refine ⟨Tryz.call87, fun w A vals hI hA hr => ?_⟩
  obtain ⟨v, vs', hv, hx, hnil⟩ := hr.cons_inv
  have := hnil.nil_inv
  subst this
  have hvals : vals = #[v] := by apply Array.ext'; simpa using hv
  subst hvals
  cases hx with
  | d hx =>
    cases hx with
    | v _ _ =>
      refine (show Calls Tryz.prog 87 #[.int .i64 n_] w _ from Any.strconv_Itoa Tryz.laysItoa n_ hc.1 hc.2 w (tab0 hI)).mono ?_
      rintro e w' ⟨rfl, k, os, rfl⟩
      refine ⟨_, A, [none], rfl, ⟨⟨rfl, rfl, rfl, ?_, fun b hb => ?_⟩, fun _ => ?_⟩, fun b hb => ⟨?_, Or.inl hb⟩, ⟨none, rfl, .v _ rfl, rfl⟩, by simp [Apart], fun b hb => by simp at hb⟩
      · show w.heap.size ≤ ((w.drewN k).heap ++ os).size
        rw [Array.size_append]
        exact Nat.le_add_right _ _
      · show ((w.drewN k).heap ++ os)[b]? = w.heap[b]?
        rw [Array.getElem?_append_left (xs := (w.drewN k).heap) hb]
        rfl
      · exact Nat.le_add_right _ _
      · have := hA b hb
        show b < ((w.drewN k).heap ++ os).size
        rw [Array.size_append]
        exact Nat.lt_of_lt_of_le this (Nat.le_add_right _ _)
/-- strings.Cut -/
structure CutR where
  a : ByteArray
  b : ByteArray
  c : Bool
noncomputable def strings_Cut (s_ sep_ : ByteArray) : Option (ByteArray × ByteArray × Bool) :=
  (chkO (decide (s_.size < 4294967281))).bind fun _ => some (⟨(Lib.cut s_.data.toList sep_.data.toList).1.toArray⟩, ⟨(Lib.cut s_.data.toList sep_.data.toList).2.1.toArray⟩, (Lib.cut s_.data.toList sep_.data.toList).2.2)
theorem strings_Cut_fn {dr : Prop} {s_ sep_ : ByteArray} {r : ByteArray × ByteArray × Bool} (h : strings_Cut s_ sep_ = some r) : Fn dr Tryz.prog 135 [VS s_, VS sep_] (.tup [VS r.1, VS r.2.1, VB r.2.2]) := by
  obtain ⟨hc, h⟩ := chkE_ h
  injection h with h
  subst h
  simp only [decide_eq_true_eq] at hc
  refine ⟨Tryz.call135, fun w A vals hI hA hr => ?_⟩
  obtain ⟨v, vs', hv, hx, hr⟩ := hr.cons_inv
  obtain ⟨v2, vs2, hv2, hx2, hnil⟩ := hr.cons_inv
  have := hnil.nil_inv
  subst this hv2
  have hvals : vals = #[v, v2] := by apply Array.ext'; simpa using hv
  subst hvals
  obtain ⟨m, hm⟩ := tab1 hI
  cases hx with
  | d hx =>
    cases hx2 with
    | d hx2 =>
      rw [str_of hx, str_of hx2]
      refine (show Calls Tryz.prog 135 #[.string s_, .string sep_] w _ from Any.strings_Cut Tryz.laysCut s_ sep_ m w hc hm).mono ?_
      rintro e w' ⟨rfl, k, rfl⟩
      refine ⟨_, A, [none] ++ ([none] ++ ([none] ++ [])), rfl, ⟨⟨rfl, rfl, rfl, Nat.le_refl _, fun b hb => rfl⟩, fun _ => Nat.le_add_right _ _⟩, fun b hb => ⟨hA b hb, Or.inl hb⟩, ?_, by simp [Apart], fun b hb => by simp at hb⟩
      exact ⟨_, rfl, _, _, _, _, rfl, rfl, ⟨none, rfl, .v _ rfl, rfl⟩, _, _, _, _, rfl, rfl, ⟨none, rfl, .v _ rfl, rfl⟩, _, _, _, _, rfl, rfl, ⟨none, rfl, .v _ rfl, rfl⟩, rfl, rfl⟩
end Go.Proofs.YtljdbikodogeiaaGreatDoor
