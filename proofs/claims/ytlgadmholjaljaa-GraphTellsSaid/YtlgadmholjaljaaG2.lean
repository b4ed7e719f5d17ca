/-
  Plain programs of functions, and that the functions do what they say. Printed by wip/tools/gen.py.
-/
import Derived.Test.YtlgadmholjaljaaG1
namespace Go.Proofs.Ytlgadmholjaljaa
open Go.RowKit
attribute [local irreducible] IntKind.wrap AW runL Step.wp
set_option linter.unusedVariables false
set_option maxHeartbeats 4000000
set_option maxRecDepth 100000
noncomputable def slices_Compact_int_int_L1 (s_ : (List Int)) (s24 : (Int)) (s45 : Int × Int × (List Int)) : Option ((Int × Int × (List Int)) ⊕ ((Int × (List Int)) ⊕ ((Unit) ⊕ ((Int) ⊕ ((Unit) ⊕ ((List Int))))))) :=
  (bif (decide (s45.2.1 < (((((s_.length : Nat) : Int) - s24).toNat : Nat) : Int))) then
    (chkO (decide (0 ≤ s45.2.1) && decide (s45.2.1 < (((((s_.length : Nat) : Int) - s24).toNat : Nat) : Int)))).bind fun _ =>
    (getI s45.2.2 (((s24.toNat + s45.2.1.toNat) : Nat) : Int)).bind fun x1085 =>
    (chkO (decide (0 ≤ (IntKind.i64.wrap (s45.2.1 - (1 : Int)))) && decide ((IntKind.i64.wrap (s45.2.1 - (1 : Int))) < (((((s_.length : Nat) : Int) - s24).toNat : Nat) : Int)))).bind fun _ =>
    (getI s45.2.2 (((s24.toNat + (IntKind.i64.wrap (s45.2.1 - (1 : Int))).toNat) : Nat) : Int)).bind fun x1087 =>
    (bif (x1085 != x1087) then
      (chkO (decide (0 ≤ s45.1) && decide (s45.1 < ((s45.2.2.length : Nat) : Int)))).bind fun _ =>
      (getI s45.2.2 s45.1).bind fun x1090 =>
      some (.inl ((IntKind.i64.wrap (s45.1 + (1 : Int))), (IntKind.i64.wrap (s45.2.1 + (1 : Int))), (List.set s45.2.2 s45.1.toNat x1085)))
    else
      some (.inl (s45.1, (IntKind.i64.wrap (s45.2.1 + (1 : Int))), s45.2.2)))
  else
    some (.inr (.inl (s45.1, s45.2.2))))
noncomputable def slices_Compact_int_int_L2 (s_ : (List Int)) (s24 : Int) : Option ((Int) ⊕ ((Unit) ⊕ ((List Int)))) :=
  (bif (decide (s24 < ((s_.length : Nat) : Int))) then
    (seqF (A := Unit) (
      (chkO (decide (0 ≤ s24) && decide (s24 < ((s_.length : Nat) : Int)))).bind fun _ =>
      (getI s_ s24).bind fun x1003 =>
      (chkO (decide (0 ≤ (IntKind.i64.wrap (s24 - (1 : Int)))) && decide ((IntKind.i64.wrap (s24 - (1 : Int))) < ((s_.length : Nat) : Int)))).bind fun _ =>
      (getI s_ (IntKind.i64.wrap (s24 - (1 : Int)))).bind fun x1005 =>
      (bif (x1003 == x1005) then
        (chkO (cutO s24 ((s_.length : Nat) : Int) ((s_.length : Nat) : Int))).bind fun _ =>
        (seqF (A := Int × (List Int)) (
          loopF (slices_Compact_int_int_L1 s_ s24) (s24, (1 : Int), s_))
        fun s44 =>
          (chkO (cutO s44.1 ((s44.2.length : Nat) : Int) ((s44.2.length : Nat) : Int))).bind fun _ =>
          (chkO (cutO (0 : Int) s44.1 ((s44.2.length : Nat) : Int))).bind fun _ =>
          some (.inr (.inr (.inr (List.take (s44.1 - (0 : Int)).toNat (List.take s44.1.toNat s44.2 ++ List.replicate (((s44.2.length : Nat) : Int) - s44.1).toNat (0 : Int) ++ List.drop (s44.1.toNat + (((s44.2.length : Nat) : Int) - s44.1).toNat) s44.2))))))
      else
        some (.inl ())))
    fun s42 =>
      some (.inl (IntKind.i64.wrap (s24 + (1 : Int)))))
  else
    some (.inr (.inl ())))
noncomputable def slices_Compact_int_int (s_ : (List Int)) : Option ((List Int)) :=
  (bif (decide (((s_.length : Nat) : Int) < (2 : Int))) then
    some s_
  else
    (seqF (A := Unit) (
      loopF (slices_Compact_int_int_L2 s_) (1 : Int))
    fun s23 =>
      some s_))
theorem slices_Compact_int_int_fn {dr : Prop} {s_ : (List Int)} {r : (List Int)} (h : slices_Compact_int_int s_ = some r) : FnW dr Try.prog 54 1 (List.map (encI .i64) s_) [] (.tup [.ow 1 (List.map (encI .i64) r)]) := by
  refine FnW.of_AW (n := s_.length) (dr := dr) (F := FnX dr Try.prog) (base := 0) (js := [5, 14, 16]) mixed tok noeqs (fun _ _ _ h => h) Try.call54 Try.func54 rfl Try.ntmps54 (by rw [Try.results54]) (by simp) (by simp) ?_; have hG : (fun x => x = r) r := rfl; unfold slices_Compact_int_int at h; refine Zap 2 rfl ?_; refine Zm (.row 2 1 0) (Mem.add _ 2 (.rows 1 (List.map (encI .i64) ([] : List Int)) false)) rfl rfl ?_; refine Zpp 5 rfl ?_; refine Zo (.row 1000000 1 s_.length) rfl rfl ?_; refine Zpc 4 rfl ?_; refine A.condB rfl h (fun _ h => ?_) (fun _ h => ?_)
  · refine Zcp 2 rfl ?_; refine Zo (.row 1000000 1 s_.length) rfl rfl ?_; refine Zo (.row 1000000 1 s_.length) rfl rfl ?_; refine Zpb 4 rfl ?_; cases h; cases hG; exact ⟨(Plain.map encI_plain _), rfl⟩
  · refine Zcc 2 rfl ?_; refine A.join (fun (s23 : Unit) => [(0, .row 900000 1 s_.length)]) (fun s23 => [(900000, .rows 1 (List.map (encI .i64) s_) false)]) _ h hG rfl ?_ ?_
    · intro J f h hG; refine Zac 6 rfl ?_; refine A.loop (fun (s24 : Int) => [(0, .row 900000 1 s_.length), (3, VI s24)]) (fun s24 => [(900000, .rows 1 (List.map (encI .i64) s_) false)]) _ h hG (Zf [] [(900000, (1000000, 1))] rfl rfl (Ze rfl rfl (Ze rfl rfl trivial)) (Zc rfl rfl trivial)) ?_; intro J s24 f h hG; unfold slices_Compact_int_int_L2 at h; refine Zap 4 rfl ?_; refine Zo (.row 900000 1 s_.length) rfl rfl ?_; refine Zpc 4 rfl ?_; refine A.condB rfl h (fun _ h => ?_) (fun _ h => ?_)
      · refine Zcc 2 rfl ?_; refine A.join (fun (s42 : Unit) => [(0, .row 900000 1 s_.length), (3, VI s24)]) (fun s42 => [(900000, .rows 1 (List.map (encI .i64) s_) false)]) _ h hG rfl ?_ ?_
        · intro J f h hG; refine Zac 2 rfl ?_; refine A.regionD (by kernel_rfl) ?_; refine Zo (.row 900000 1 s_.length) rfl rfl ?_; refine Zpp 1 rfl ?_; refine Y1 rfl ?_; refine chkK h fun g1002 h => ?_; refine W.chk rfl (by simpa using g1002) ?_; refine W.det (.rp 900000 1 s24.toNat 0) _ rfl ?_; refine Y1 rfl ?_; refine bindK h fun x1003 hx1003 h => ?_; refine W.elem rfl (elemG hx1003) ?_; refine Zwp 1 rfl ?_; refine Zo (.row 900000 1 s_.length) rfl rfl ?_; refine Zpp 2 rfl ?_; refine Y1 rfl ?_; refine chkK h fun g1004 h => ?_; refine W.chk rfl (by simpa using g1004) ?_; refine W.det (.rp 900000 1 (IntKind.i64.wrap (s24 - (1 : Int))).toNat 0) _ rfl ?_; refine Y1 rfl ?_; refine bindK h fun x1005 hx1005 h => ?_; refine W.elem rfl (elemG hx1005) ?_; refine Zwc 4 rfl ?_; refine A.condB rfl h (fun _ h => ?_) (fun _ h => ?_)
          · refine Zcp 2 rfl ?_; refine Zo (.row 900000 1 s_.length) rfl rfl ?_; refine Zpp 1 rfl ?_; refine Y1 rfl ?_; refine chkK h fun g1006 h => ?_; refine W.chk rfl (cutO_all g1006) ?_; refine W.det (.sub 900000 1 s24.toNat (((s_.length : Nat) : Int) - s24).toNat) _ rfl ?_; refine Zo (.sub 900000 1 s24.toNat (((s_.length : Nat) : Int) - s24).toNat) rfl rfl ?_; refine Zpc 2 rfl ?_; refine A.join (fun (s44 : Int × (List Int)) => [(0, .row 900000 1 s44.2.length), (3, VI s44.1)]) (fun s44 => [(900000, .rows 1 (List.map (encI .i64) s44.2) false)]) _ h hG rfl ?_ ?_
            · intro J f h hG; refine Zac 6 rfl ?_; refine A.loop (fun (s45 : Int × Int × (List Int)) => [(0, .row 900000 1 s45.2.2.length), (3, VI s45.1), (4, .sub 900000 1 s24.toNat (((s_.length : Nat) : Int) - s24).toNat), (5, VI s45.2.1)]) (fun s45 => [(900000, .rows 1 (List.map (encI .i64) s45.2.2) false)]) _ h hG (Zf [] [(900000, (900000, 1))] rfl rfl (Ze rfl rfl (Ze rfl rfl (Ze rfl rfl (Ze rfl rfl trivial)))) (Zc rfl rfl trivial)) ?_; intro J s45 f h hG; unfold slices_Compact_int_int_L1 at h; refine Zap 4 rfl ?_; refine Zo (.sub 900000 1 s24.toNat (((s_.length : Nat) : Int) - s24).toNat) rfl rfl ?_; refine Zpc 4 rfl ?_; refine A.condB rfl h (fun _ h => ?_) (fun _ h => ?_)
              · refine Zcc 5 rfl ?_; refine A.regionD (by kernel_rfl) ?_; refine Zo (.sub 900000 1 s24.toNat (((s_.length : Nat) : Int) - s24).toNat) rfl rfl ?_; refine Zpp 1 rfl ?_; refine Y1 rfl ?_; refine chkK h fun g1084 h => ?_; refine W.chk rfl (by simpa using g1084) ?_; refine W.det (.rp 900000 1 (s24.toNat + s45.2.1.toNat) 0) _ rfl ?_; refine Y1 rfl ?_; refine bindK h fun x1085 hx1085 h => ?_; refine W.elem rfl (elemG hx1085) ?_; refine Zwp 1 rfl ?_; refine Zo (.sub 900000 1 s24.toNat (((s_.length : Nat) : Int) - s24).toNat) rfl rfl ?_; refine Zpp 2 rfl ?_; refine Y1 rfl ?_; refine chkK h fun g1086 h => ?_; refine W.chk rfl (by simpa using g1086) ?_; refine W.det (.rp 900000 1 (s24.toNat + (IntKind.i64.wrap (s45.2.1 - (1 : Int))).toNat) 0) _ rfl ?_; refine Y1 rfl ?_; refine bindK h fun x1087 hx1087 h => ?_; refine W.elem rfl (elemG hx1087) ?_; refine Zwc 4 rfl ?_; refine A.condB rfl h (fun _ h => ?_) (fun _ h => ?_)
                · refine Zcp 2 rfl ?_; refine Zo (.row 900000 1 s45.2.2.length) rfl rfl ?_; refine Zpp 1 rfl ?_; refine Zo (.sub 900000 1 s24.toNat (((s_.length : Nat) : Int) - s24).toNat) rfl rfl ?_; refine Zpp 1 rfl ?_; refine Y1 rfl ?_; refine W.chk rfl (by simpa using g1084) ?_; refine W.det (.rp 900000 1 (s24.toNat + s45.2.1.toNat) 0) _ rfl ?_; refine Y1 rfl ?_; refine W.elem rfl (elemG hx1085) ?_; refine Zwp 1 rfl ?_; refine Y1 rfl ?_; refine chkK h fun g1089 h => ?_; refine W.chk rfl (by simpa using g1089) ?_; refine W.det (.rp 900000 1 s45.1.toNat 0) _ rfl ?_; refine Y1 rfl ?_; refine bindK h fun x1090 hx1090 h => ?_; refine W.elem rfl (elemG hx1090) ?_; refine W.set x1085 rfl rfl ?_; refine Zpb 14 rfl ?_; cases h; exact Zh hG [] [(900000, (900000, 1))] rfl rfl (chkE.c rfl (by simp only [List.length_set]; rfl) (Ze rfl rfl (Ze rfl rfl (Ze rfl rfl trivial)))) (Zc rfl rfl trivial)
                · refine Zcb 8 rfl ?_; cases h; exact Zh hG [] [(900000, (900000, 1))] rfl rfl (Ze rfl rfl (Ze rfl rfl (Ze rfl rfl (Ze rfl rfl trivial)))) (Zc rfl rfl trivial)
              · refine Zcb 2 rfl ?_; refine headK.e ?_; refine Zob 1 rfl ?_; cases h; exact Zh hG [] [(900000, (900000, 1))] rfl rfl (Ze rfl rfl (Ze rfl rfl trivial)) (Zc rfl rfl trivial)
            · intro s44 r2 h hG; refine Zcp 2 rfl ?_; refine Zo (.row 900000 1 s44.2.length) rfl rfl ?_; refine Zpp 1 rfl ?_; refine Y1 rfl ?_; refine chkK h fun g1091 h => ?_; refine W.chk rfl (cutO_all g1091) ?_; refine W.det (.sub 900000 1 s44.1.toNat (((s44.2.length : Nat) : Int) - s44.1).toNat) _ rfl ?_; refine Y1 rfl ?_; refine W.to (v2 := (.tup [])) (m2 := (Mem.set _ 900000 1 (some (.rows 1 (List.map (encI .i64) (List.take s44.1.toNat s44.2 ++ List.replicate (((s44.2.length : Nat) : Int) - s44.1).toNat (0 : Int) ++ List.drop (s44.1.toNat + (((s44.2.length : Nat) : Int) - s44.1).toNat) s44.2)) false)))) rfl rfl (congrArg (fun q => Mem.set _ 900000 1 (some (Inst.rows 1 q false))) (clrMap (encI .i64) (0 : Int) s44.2 s44.1.toNat (((s44.2.length : Nat) : Int) - s44.1).toNat)) ?_; refine Zpp 4 rfl ?_; refine Zo (.row 900000 1 s44.2.length) rfl rfl ?_; refine Zpp 1 rfl ?_; refine Y1 rfl ?_; refine chkK h fun g1092 h => ?_; refine W.chk rfl (cutO_all g1092) ?_; refine W.det (.sub 900000 1 0 (s44.1 - (0 : Int)).toNat) _ rfl ?_; refine Zo (.sub 900000 1 0 (s44.1 - (0 : Int)).toNat) rfl rfl ?_; refine Zpb 4 rfl ?_; refine headK.r ?_; refine headK.r ?_; refine Zob 1 rfl ?_; refine headK.r ?_; cases h; cases hG
              exact ⟨(Plain.map encI_plain _), _, rfl, by simp only [List.map_take]⟩
          · refine Zcb 2 rfl ?_; cases h; exact Zh hG [] [(900000, (900000, 1))] rfl rfl (Ze rfl rfl (Ze rfl rfl trivial)) (Zc rfl rfl trivial)
        · intro s42 r2 h hG; refine Zcb 5 rfl ?_; cases h; exact Zh hG [] [(900000, (900000, 1))] rfl rfl (Ze rfl rfl (Ze rfl rfl trivial)) (Zc rfl rfl trivial)
      · refine Zcb 2 rfl ?_; refine headK.e ?_; refine Zob 1 rfl ?_; cases h; exact Zh hG [] [(900000, (900000, 1))] rfl rfl (Ze rfl rfl trivial) (Zc rfl rfl trivial)
    · intro s23 r2 h hG; refine Zcp 2 rfl ?_; refine Zo (.row 900000 1 s_.length) rfl rfl ?_; refine Zo (.row 900000 1 s_.length) rfl rfl ?_; refine Zpb 3 rfl ?_; cases h; cases hG; exact ⟨(Plain.map encI_plain _), rfl⟩
noncomputable def graph_Graph_Sorted (g_ : graph_Graph) (ids_ : (List Int)) : Option ((List Int)) :=
  (slices_Clone_int_int ids_).bind fun y1 =>
  (slices_DeleteFunc_int_int y1 (fun a0 => graph_Graph_Sorted_1 a0 g_)).bind fun y2 =>
  (sortI (fun a0 a1 => graph_Graph_Sorted_2 a0 a1 g_) y2).bind fun y3 =>
  (slices_Compact_int_int y3).bind fun y4 =>
  some y4
theorem graph_Graph_Sorted_fn {dr : Prop} {g_ : graph_Graph} {ids_ : (List Int)} {r : (List Int)} (h : graph_Graph_Sorted g_ ids_ = some r) : Fn dr Try.prog 23 [.fp [.mz (.i .i64) (mapE (Value.int .i64) (fun x => D.ag (graph_entry.enc x)) g_.nodes)], VF (List.map (encI .i64) ids_)] (.ow 1 (List.map (encI .i64) r)) := by
  refine Fn.of_AW (dr := dr) (F := FnX dr Try.prog) (base := 0) (js := []) mixed tok noeqs (fun _ _ _ h => h) Try.call23 Try.func23 rfl Try.ntmps23 (by rw [Try.results23]) (by simp) ?_; have hG : (fun x => x = r) r := rfl; unfold graph_Graph_Sorted at h; refine Zap 2 rfl ?_; refine Zm (.lp 2 1 0) (Mem.add _ 2 (.box [.fp [.mz (.i .i64) (mapE (Value.int .i64) (fun x => D.ag (graph_entry.enc x)) g_.nodes)]])) rfl rfl ?_; refine Zm (.row 4 1 0) (Mem.add _ 4 (.rows 1 (List.map (encI .i64) ([] : List Int)) false)) rfl rfl ?_; refine Zpp 5 rfl ?_; refine Y1 rfl ?_; refine bindK h fun y1 hy1 h => ?_; refine W.call rfl (slices_Clone_int_int_fn hy1) ?_; refine W.v (.row 7 1 (List.map (encI .i64) y1).length) (.row 7 1 y1.length) (Mem.add _ 7 (.rows 1 (List.map (encI .i64) y1) false)) rfl (by simp only [List.length_map]) ?_; refine Zo (.fn 50 [.lp 2 1 0]) rfl rfl ?_; refine Y1 rfl ?_; refine bindK h fun y2 hy2 h => ?_; refine W.call rfl (slices_DeleteFunc_int_int_fn (del_F := 50) (del_C := [.fp [.pz [.mz (.i .i64) (mapE (Value.int .i64) (fun x => D.ag (graph_entry.enc x)) g_.nodes)]]]) rfl (fun _ _ h => graph_Graph_Sorted_1_fn h) hy2) ?_; refine W.chk rfl (Plain.map encI_plain _) ?_; refine W.rows (List.map (encI .i64) y2).length y2.length ((List.map (encI .i64) y2) ++ []) (List.map (encI .i64) y2) rfl (by first | rfl | (simp; done) | simp only [partMap, List.length_map, List.length_append, List.nil_append, Nat.zero_add, List.length_nil]) (by first | rfl | (simp; done) | simp only [partMap, List.map_append, List.nil_append, List.map_nil]) ?_; refine Zo (.row 7 2 y2.length) rfl rfl ?_; refine Zpp 4 rfl ?_; refine Zo (.row 7 2 y2.length) rfl rfl ?_; refine Zo (.fn 52 [.lp 2 1 0]) rfl rfl ?_; refine Y1 rfl ?_; refine bindK h fun y3 hy3 h => ?_; refine W.call rfl (slices_SortFunc_int_int_fn (cF := 52) (cC := [.fp [.pz [.mz (.i .i64) (mapE (Value.int .i64) (fun x => D.ag (graph_entry.enc x)) g_.nodes)]]]) rfl (fun _ _ _ h => graph_Graph_Sorted_2_fn h) hy3) ?_; refine W.chk rfl (by simp only [List.length_map]; exact sortI_len hy3) ?_; refine W.det (.tup []) (Mem.set _ 7 2 (some (.rows 1 (List.map (encI .i64) y3) false))) rfl ?_; refine Zpp 4 rfl ?_; refine Zo (.row 7 2 y2.length) rfl rfl ?_; refine Y1 rfl ?_; refine bindK h fun y4 hy4 h => ?_; refine W.call rfl (slices_Compact_int_int_fn hy4) ?_; refine W.chk rfl (Plain.map encI_plain _) ?_; refine W.rows (List.map (encI .i64) y4).length y4.length ((List.map (encI .i64) y4) ++ []) (List.map (encI .i64) y4) rfl (by first | rfl | (simp; done) | simp only [partMap, List.length_map, List.length_append, List.nil_append, Nat.zero_add, List.length_nil]) (by first | rfl | (simp; done) | simp only [partMap, List.map_append, List.nil_append, List.map_nil]) ?_; refine Zo (.row 7 3 y4.length) rfl rfl ?_; refine Zpb 3 rfl ?_; cases h; cases hG; exact ⟨rfl, rfl, trivial⟩
noncomputable def graph_Graph_Len (g_ : graph_Graph) : Option (Int) :=
  some (g_.nodes.length : Int)
theorem graph_Graph_Len_fn {dr : Prop} {g_ : graph_Graph} {r : Int} (h : graph_Graph_Len g_ = some r) : Fn dr Try.prog 14 [.fp [.mz (.i .i64) (mapE (Value.int .i64) (fun x => D.ag (graph_entry.enc x)) g_.nodes)]] (VI r) := by
  refine Fn.of_AW (dr := dr) (F := FnX dr Try.prog) (base := 0) (js := []) mixed tok noeqs (fun _ _ _ h => h) Try.call14 Try.func14 rfl Try.ntmps14 (by rw [Try.results14]) (by simp) ?_; have hG : (fun x => x = r) r := rfl; unfold graph_Graph_Len at h; refine Zap 7 rfl ?_; refine Zo (.fp [.mz (.i .i64) (mapE (Value.int .i64) (fun x => D.ag (graph_entry.enc x)) g_.nodes)]) rfl rfl ?_; refine Zo (.fp [.mz (.i .i64) (mapE (Value.int .i64) (fun x => D.ag (graph_entry.enc x)) g_.nodes)]) rfl rfl ?_; refine Zo (.fp [.mz (.i .i64) (mapE (Value.int .i64) (fun x => D.ag (graph_entry.enc x)) g_.nodes)]) rfl rfl ?_; refine Zo (.d (.mz (.i .i64) (mapE (Value.int .i64) (fun x => D.ag (graph_entry.enc x)) g_.nodes))) rfl rfl ?_; refine Y1 rfl ?_; refine W.lenM rfl ?_; refine Zpb 4 rfl ?_; cases h; cases hG; exact ⟨rfl, trivial⟩
noncomputable def law07_small : Option (Bool) :=
  (law07_node (0 : Int) ([] : List Int)).bind fun y1 =>
  (law07_node (1 : Int) [(0 : Int)]).bind fun y2 =>
  (law07_node (2 : Int) [(0 : Int)]).bind fun y3 =>
  (law07_node (3 : Int) [(1 : Int), (2 : Int)]).bind fun y4 =>
  (law07_node (7 : Int) ([] : List Int)).bind fun y5 =>
  (law07_made [y1, y2, y3, y4, y5]).bind fun y6 =>
  (seqF (A := Bool) (
    (graph_Graph_Past y6 (3 : Int)).bind fun y14 =>
    (ref07_Same y14 [(0 : Int), (1 : Int), (2 : Int)]).bind fun y15 =>
    (bif y15 then
      (graph_Graph_Heads y6).bind fun y16 =>
      (ref07_Same y16 [(3 : Int), (7 : Int)]).bind fun y17 =>
      (bif y17 then
        (graph_Graph_Level y6 (3 : Int)).bind fun y18 =>
        (bif (y18 == (2 : Int)) then
          (graph_Graph_Level y6 (7 : Int)).bind fun y19 =>
          (bif (y19 == (0 : Int)) then
            (graph_Graph_Level y6 (5 : Int)).bind fun y20 =>
            some (.inl (y20 == (-1 : Int)))
          else
            some (.inl false))
        else
          some (.inl false))
      else
        some (.inl false))
    else
      some (.inl false)))
  fun s1 =>
    (bif s1 then
      (graph_Graph_Sorted y6 [(3 : Int), (7 : Int), (2 : Int)]).bind fun y21 =>
      (ref07_Same y21 [(7 : Int), (2 : Int), (3 : Int)]).bind fun y22 =>
      (bif y22 then
        (graph_Graph_Down y6 [(1 : Int), (7 : Int)]).bind fun y23 =>
        (ref07_Same y23 [(0 : Int), (1 : Int), (7 : Int)]).bind fun y24 =>
        (bif y24 then
          (law07_node (3 : Int) [(1 : Int)]).bind fun y25 =>
          (graph_Graph_Add y6 y25).bind fun y26 =>
          (bif (y26.1 == (5 : Int)) then
            (law07_node (8 : Int) [(5 : Int)]).bind fun y27 =>
            (graph_Graph_Add (graph_Graph.mk y26.2.nodes) y27).bind fun y28 =>
            (bif (y28.1 == (14 : Int)) then
              (graph_Graph_Len (graph_Graph.mk y28.2.nodes)).bind fun y29 =>
              some (y29 == (5 : Int))
            else
              some false)
          else
            some false)
        else
          some false)
      else
        some false)
    else
      some false))
theorem law07_small_fn {r : Bool} (h : law07_small = some r) : Fn False Try.prog 9 [] (VB r) := by
  refine Fn.of_AW (dr := False) (F := FnX False Try.prog) (base := 0) (js := [5]) mixed tok noeqs (fun _ _ _ h => h) Try.call9 Try.func9 rfl Try.ntmps9 (by rw [Try.results9]) (by simp) ?_; have hG : (fun x => x = r) r := rfl; unfold law07_small at h; refine Zap 7 rfl ?_; refine Y1 rfl ?_; refine bindK h fun y1 hy1 h => ?_; refine W.call rfl (law07_node_fn hy1) ?_; refine W.det (.agg (api_Node.av y1)) _ rfl ?_; refine Zm (.row 4 1 1) (Mem.add _ 4 (.rows 1 (List.map (encI .i64) [(0 : Int)]) false)) rfl rfl ?_; refine Y1 rfl ?_; refine bindK h fun y2 hy2 h => ?_; refine W.call rfl (law07_node_fn hy2) ?_; refine W.det (.agg (api_Node.av y2)) (Mem.set _ 4 1 (some (.rows 1 (List.map (encI .i64) [(0 : Int)]) true))) rfl ?_; refine Zm (.row 6 1 1) (Mem.add _ 6 (.rows 1 (List.map (encI .i64) [(0 : Int)]) false)) rfl rfl ?_; refine Y1 rfl ?_; refine bindK h fun y3 hy3 h => ?_; refine W.call rfl (law07_node_fn hy3) ?_; refine W.det (.agg (api_Node.av y3)) (Mem.set _ 6 1 (some (.rows 1 (List.map (encI .i64) [(0 : Int)]) true))) rfl ?_; refine Zm (.row 8 1 2) (Mem.add _ 8 (.rows 1 (List.map (encI .i64) [(1 : Int), (2 : Int)]) false)) rfl rfl ?_; refine Y1 rfl ?_; refine bindK h fun y4 hy4 h => ?_; refine W.call rfl (law07_node_fn hy4) ?_; refine W.det (.agg (api_Node.av y4)) (Mem.set _ 8 1 (some (.rows 1 (List.map (encI .i64) [(1 : Int), (2 : Int)]) true))) rfl ?_; refine Y1 rfl ?_; refine bindK h fun y5 hy5 h => ?_; refine W.call rfl (law07_node_fn hy5) ?_; refine W.det (.agg (api_Node.av y5)) _ rfl ?_; refine Zm (.row 11 1 5) (Mem.add _ 11 (.rows 2 (List.map api_Node.enc [y1, y2, y3, y4, y5]) false)) rfl rfl ?_; refine Y1 rfl ?_; refine bindK h fun y6 hy6 h => ?_; refine W.call rfl (law07_made_fn hy6) ?_; refine W.det (.lp 536870924 1 0) (Mem.add (Mem.add (Mem.set _ 11 1 (some (.rows 2 (List.map api_Node.enc [y1, y2, y3, y4, y5]) true))) 268435468 (.mapi (.i .i64) (mapE (Value.int .i64) (fun x => D.ag (graph_entry.enc x)) y6.nodes))) 536870924 (.box [.mp 268435468 1])) rfl ?_; refine Zpc 13 rfl ?_; refine A.join (fun (s1 : Bool) => [(1, .lp 900000 1 0), (2, VB s1)]) (fun s1 => [(900000, .box [.mp 900001 1]), (900001, .mapi (.i .i64) (mapE (Value.int .i64) (fun x => D.ag (graph_entry.enc x)) y6.nodes))]) _ h hG rfl ?_ ?_
  · intro J f h hG; refine Zap 2 rfl ?_; refine Y1 rfl ?_; refine bindK h fun y14 hy14 h => ?_; refine W.call rfl (Fn.toO (graph_Graph_Past_fn hy14) (PlainR.ints _) rfl) ?_; refine W.v (.row 16 1 (List.map (encI .i64) y14).length) (.row 16 1 y14.length) (Mem.add _ 16 (.rows 1 (List.map (encI .i64) y14) false)) rfl (by simp only [List.length_map]) ?_; refine Zm (.row 17 1 3) (Mem.add _ 17 (.rows 1 (List.map (encI .i64) [(0 : Int), (1 : Int), (2 : Int)]) false)) rfl rfl ?_; refine Y1 rfl ?_; refine bindK h fun y15 hy15 h => ?_; refine W.call rfl (ref07_Same_fn hy15) ?_; refine Zwp 2 rfl ?_; refine YT rfl rfl rfl h (fun _ h => ?_) (fun _ h => ?_)
    · refine Zwp 1 rfl ?_; refine Y2 rfl rfl rfl ?_; refine bindK h fun y16 hy16 h => ?_; refine W.call rfl (Fn.toO (graph_Graph_Heads_fn hy16) (PlainR.ints _) rfl) ?_; refine W.v (.row 21 1 (List.map (encI .i64) y16).length) (.row 21 1 y16.length) (Mem.add _ 21 (.rows 1 (List.map (encI .i64) y16) false)) rfl (by simp only [List.length_map]) ?_; refine Zv (.row 22 1 2) (Mem.add _ 22 (.rows 1 (List.map (encI .i64) [(3 : Int), (7 : Int)]) false)) rfl rfl rfl rfl ?_; refine Y2 rfl rfl rfl ?_; refine bindK h fun y17 hy17 h => ?_; refine W.call rfl (ref07_Same_fn hy17) ?_; refine Zwp 3 rfl ?_; refine YT rfl rfl rfl h (fun _ h => ?_) (fun _ h => ?_)
      · refine Zwp 1 rfl ?_; refine Y2 rfl rfl rfl ?_; refine bindK h fun y18 hy18 h => ?_; refine W.call rfl (Fn.toO (graph_Graph_Level_fn hy18) trivial rfl) ?_; refine Zwp 4 rfl ?_; refine YT rfl rfl rfl h (fun _ h => ?_) (fun _ h => ?_)
        · refine Zwp 1 rfl ?_; refine Y2 rfl rfl rfl ?_; refine bindK h fun y19 hy19 h => ?_; refine W.call rfl (Fn.toO (graph_Graph_Level_fn hy19) trivial rfl) ?_; refine Zwp 4 rfl ?_; refine YT rfl rfl rfl h (fun _ h => ?_) (fun _ h => ?_)
          · refine Zwp 1 rfl ?_; refine Y2 rfl rfl rfl ?_; refine bindK h fun y20 hy20 h => ?_; refine W.call rfl (Fn.toO (graph_Graph_Level_fn hy20) trivial rfl) ?_; refine Zwb 5 rfl ?_; cases h; exact Zh hG [] [(900000, (536870924, 1)), (900001, (268435468, 1))] rfl rfl (Ze rfl rfl (Ze rfl rfl trivial)) (Zc rfl rfl (Zc rfl rfl trivial))
          · refine Zpb 5 rfl ?_; cases h; exact Zh hG [] [(900000, (536870924, 1)), (900001, (268435468, 1))] rfl rfl (Ze rfl rfl (Ze rfl rfl trivial)) (Zc rfl rfl (Zc rfl rfl trivial))
        · refine Zpb 10 rfl ?_; cases h; exact Zh hG [] [(900000, (536870924, 1)), (900001, (268435468, 1))] rfl rfl (Ze rfl rfl (Ze rfl rfl trivial)) (Zc rfl rfl (Zc rfl rfl trivial))
      · refine Zpb 15 rfl ?_; cases h; exact Zh hG [] [(900000, (536870924, 1)), (900001, (268435468, 1))] rfl rfl (Ze rfl rfl (Ze rfl rfl trivial)) (Zc rfl rfl (Zc rfl rfl trivial))
    · refine Zpb 21 rfl ?_; cases h; exact Zh hG [] [(900000, (536870924, 1)), (900001, (268435468, 1))] rfl rfl (Ze rfl rfl (Ze rfl rfl trivial)) (Zc rfl rfl (Zc rfl rfl trivial))
  · intro s1 r2 h hG; refine Zcp 4 rfl ?_; refine YT rfl rfl rfl h (fun _ h => ?_) (fun _ h => ?_)
    · refine Zwp 1 rfl ?_; refine Zv (.row 43 2 3) (Mem.add _ 43 (.rows 1 (List.map (encI .i64) [(3 : Int), (7 : Int), (2 : Int)]) false)) rfl rfl rfl rfl ?_; refine Y2 rfl rfl rfl ?_; refine bindK h fun y21 hy21 h => ?_; refine W.call rfl (Fn.toO (graph_Graph_Sorted_fn hy21) (PlainR.ints _) rfl) ?_; refine W.v (.row 44 2 (List.map (encI .i64) y21).length) (.row 44 2 y21.length) (Mem.add (Mem.set _ 43 2 (some (.rows 1 (List.map (encI .i64) [(3 : Int), (7 : Int), (2 : Int)]) true))) 44 (.rows 1 (List.map (encI .i64) y21) false)) rfl (by simp only [List.length_map]) ?_; refine Zv (.row 45 2 3) (Mem.add _ 45 (.rows 1 (List.map (encI .i64) [(7 : Int), (2 : Int), (3 : Int)]) false)) rfl rfl rfl rfl ?_; refine Y2 rfl rfl rfl ?_; refine bindK h fun y22 hy22 h => ?_; refine W.call rfl (ref07_Same_fn hy22) ?_; refine Zwp 3 rfl ?_; refine YT rfl rfl rfl h (fun _ h => ?_) (fun _ h => ?_)
      · refine Zwp 1 rfl ?_; refine Zv (.row 50 2 2) (Mem.add _ 50 (.rows 1 (List.map (encI .i64) [(1 : Int), (7 : Int)]) false)) rfl rfl rfl rfl ?_; refine Y2 rfl rfl rfl ?_; refine bindK h fun y23 hy23 h => ?_; refine W.call rfl (Fn.toO (graph_Graph_Down_fn hy23) (PlainR.ints _) rfl) ?_; refine W.v (.row 51 2 (List.map (encI .i64) y23).length) (.row 51 2 y23.length) (Mem.add (Mem.set _ 50 2 (some (.rows 1 (List.map (encI .i64) [(1 : Int), (7 : Int)]) true))) 51 (.rows 1 (List.map (encI .i64) y23) false)) rfl (by simp only [List.length_map]) ?_; refine Zv (.row 52 2 3) (Mem.add _ 52 (.rows 1 (List.map (encI .i64) [(0 : Int), (1 : Int), (7 : Int)]) false)) rfl rfl rfl rfl ?_; refine Y2 rfl rfl rfl ?_; refine bindK h fun y24 hy24 h => ?_; refine W.call rfl (ref07_Same_fn hy24) ?_; refine Zwp 3 rfl ?_; refine YT rfl rfl rfl h (fun _ h => ?_) (fun _ h => ?_)
        · refine Zwp 1 rfl ?_; refine Zv (.row 57 2 1) (Mem.add _ 57 (.rows 1 (List.map (encI .i64) [(1 : Int)]) false)) rfl rfl rfl rfl ?_; refine Y2 rfl rfl rfl ?_; refine bindK h fun y25 hy25 h => ?_; refine W.call rfl (law07_node_fn hy25) ?_; refine W.det (.agg (api_Node.av y25)) (Mem.set _ 57 2 (some (.rows 1 (List.map (encI .i64) [(1 : Int)]) true))) rfl ?_; refine Y2 rfl rfl rfl ?_; refine bindK h fun y26 hy26 h => ?_; refine W.call rfl (graph_Graph_Add_fn hy26) ?_; refine W.det (VI y26.1) (Mem.set (Mem.set _ 900000 1 (some (.box [.mp 900001 1]))) 900001 1 (some (.mapi (.i .i64) (mapE (Value.int .i64) (fun x => D.ag (graph_entry.enc x)) y26.2.nodes)))) rfl ?_; refine Zpp 3 rfl ?_; refine YT rfl rfl rfl h (fun _ h => ?_) (fun _ h => ?_)
          · refine Zwp 1 rfl ?_; refine Zv (.row 64 2 1) (Mem.add _ 64 (.rows 1 (List.map (encI .i64) [(5 : Int)]) false)) rfl rfl rfl rfl ?_; refine Y2 rfl rfl rfl ?_; refine bindK h fun y27 hy27 h => ?_; refine W.call rfl (law07_node_fn hy27) ?_; refine W.det (.agg (api_Node.av y27)) (Mem.set _ 64 2 (some (.rows 1 (List.map (encI .i64) [(5 : Int)]) true))) rfl ?_; refine Y2 rfl rfl rfl ?_; refine bindK h fun y28 hy28 h => ?_; refine W.call rfl (graph_Graph_Add_fn hy28) ?_; refine W.det (VI y28.1) (Mem.set (Mem.set _ 900000 1 (some (.box [.mp 900001 1]))) 900001 1 (some (.mapi (.i .i64) (mapE (Value.int .i64) (fun x => D.ag (graph_entry.enc x)) y28.2.nodes)))) rfl ?_; refine Zpp 3 rfl ?_; refine YT rfl rfl rfl h (fun _ h => ?_) (fun _ h => ?_)
            · refine Zwp 1 rfl ?_; refine Y2 rfl rfl rfl ?_; refine bindK h fun y29 hy29 h => ?_; refine W.call rfl (Fn.toO (graph_Graph_Len_fn hy29) trivial rfl) ?_; refine Zwb 7 rfl ?_; cases h; cases hG; exact ⟨rfl, trivial⟩
            · refine Zpb 7 rfl ?_; cases h; cases hG; exact ⟨rfl, trivial⟩
          · refine Zpb 14 rfl ?_; cases h; cases hG; exact ⟨rfl, trivial⟩
        · refine Zpb 21 rfl ?_; cases h; cases hG; exact ⟨rfl, trivial⟩
      · refine Zpb 28 rfl ?_; cases h; cases hG; exact ⟨rfl, trivial⟩
    · refine Zpb 35 rfl ?_; cases h; cases hG; exact ⟨rfl, trivial⟩
noncomputable def ref07_Few_L1 (l_ : (List api_Node)) (n_ : Int) (s3 : Int) : Option ((Int) ⊕ ((Unit) ⊕ (Bool))) :=
  (bif (decide (s3 < (l_.length : Int))) then
    (bif (decide (s3 ≤ n_)) then
      (getI l_ s3).bind fun x12 =>
      (bif (decide ((30 : Int) < (x12.Parents.length : Int))) then
        some (.inr (.inr false))
      else
        some (.inl (IntKind.i64.wrap (s3 + (1 : Int)))))
    else
      some (.inr (.inl ())))
  else
    some (.inr (.inl ())))
noncomputable def ref07_Few (l_ : (List api_Node)) (n_ : Int) : Option (Bool) :=
  (seqF (A := Unit) (
    loopF (ref07_Few_L1 l_ n_) (0 : Int))
  fun s2 =>
    some (decide ((l_.length : Int) ≤ n_)))
theorem ref07_Few_fn {dr : Prop} {l_ : (List api_Node)} {n_ : Int} {r : Bool} (h : ref07_Few l_ n_ = some r) : Fn dr Try.prog 10 [VF (List.map api_Node.enc l_), VI n_] (VB r) := by
  refine Fn.of_AW (dr := dr) (F := FnX dr Try.prog) (base := 0) (js := [6]) mixed tok noeqs (fun _ _ _ h => h) Try.call10 Try.func10 rfl Try.ntmps10 (by rw [Try.results10]) (by simp) ?_; have hG : (fun x => x = r) r := rfl; unfold ref07_Few at h; refine Zac 5 rfl ?_; refine A.join (fun (s2 : Unit) => [(0, VF (List.map api_Node.enc l_)), (1, VI n_)]) (fun s2 => []) _ h hG rfl ?_ ?_
  · intro J f h hG; refine Zac 6 rfl ?_; refine A.loop (fun (s3 : Int) => [(0, VF (List.map api_Node.enc l_)), (1, VI n_), (5, VI s3)]) (fun s3 => []) _ h hG (Zf [] [] rfl rfl (Ze rfl rfl (Ze rfl rfl (Ze rfl rfl trivial))) trivial) ?_; intro J s3 f h hG; unfold ref07_Few_L1 at h; refine Zap 5 rfl ?_; refine Y1 rfl ?_; refine W.len rfl ?_; refine Zpp 2 rfl ?_; refine YT rfl rfl rfl h (fun _ h => ?_) (fun _ h => ?_)
    · refine Zwc 6 rfl ?_; refine A.condB rfl h (fun _ h => ?_) (fun _ h => ?_)
      · refine Zcp 8 rfl ?_; refine Y1 rfl ?_; refine bindK h fun x12 hx12 h => ?_; refine W.chk rfl (elemB hx12) ?_; refine W.elem rfl (elemG hx12) ?_; refine W.chk rfl rfl ?_; refine W.det (.fp [.v (.int .i64 x12.Id), .fz (List.map (encI .i64) x12.Parents)]) _ rfl ?_; refine Zo (.fp [.fz (List.map (encI .i64) x12.Parents)]) rfl rfl ?_; refine Zpp 1 rfl ?_; refine Y1 rfl ?_; refine W.len rfl ?_; refine Zpc 3 rfl ?_; refine A.condB rfl h (fun _ h => ?_) (fun _ h => ?_)
        · refine Zcb 8 rfl ?_; refine headK.r ?_; refine Zob 1 rfl ?_; refine headK.r ?_; cases h; cases hG; exact ⟨rfl, trivial⟩
        · refine Zcb 8 rfl ?_; cases h; exact Zh hG [] [] rfl rfl (Ze rfl rfl (Ze rfl rfl (Ze rfl rfl trivial))) trivial
      · refine Zcb 2 rfl ?_; refine headK.e ?_; refine Zob 1 rfl ?_; cases h; exact Zh hG [] [] rfl rfl (Ze rfl rfl (Ze rfl rfl trivial)) trivial
    · refine Zpb 8 rfl ?_; refine headK.e ?_; refine Zob 1 rfl ?_; cases h; exact Zh hG [] [] rfl rfl (Ze rfl rfl (Ze rfl rfl trivial)) trivial
  · intro s2 r2 h hG; refine Zcp 3 rfl ?_; refine Y1 rfl ?_; refine W.len rfl ?_; refine Zpb 6 rfl ?_; cases h; cases hG; exact ⟨rfl, trivial⟩
noncomputable def law07_known_L1 (l_ : (List api_Node)) (s45 : Int × (List (Int × graph_entry))) : Option ((Int × (List (Int × graph_entry))) ⊕ (((List (Int × graph_entry))) ⊕ (((List (Int × graph_entry))) ⊕ ((Int × (List (Int × graph_entry))) ⊕ (((List (Int × graph_entry))) ⊕ (graph_Graph)))))) :=
  (bif (decide (s45.1 < (l_.length : Int))) then
    (getI l_ s45.1).bind fun x311 =>
    (graph_Graph_Add (graph_Graph.mk s45.2) x311).bind fun y312 =>
    some (.inl ((IntKind.i64.wrap (s45.1 + (1 : Int))), y312.2.nodes))
  else
    some (.inr (.inl s45.2)))
noncomputable def law07_known_L2 (l_ : (List api_Node)) (s24 : Int × (List (Int × graph_entry))) : Option ((Int × (List (Int × graph_entry))) ⊕ (((List (Int × graph_entry))) ⊕ (graph_Graph))) :=
  (bif (decide (s24.1 ≤ (l_.length : Int))) then
    (seqF (A := (List (Int × graph_entry))) (
      (graph_Graph_Len (graph_Graph.mk s24.2)).bind fun y288 =>
      (seqF (A := (List (Int × graph_entry))) (
        loopF (law07_known_L1 l_) ((0 : Int), s24.2))
      fun s44 =>
        (graph_Graph_Len (graph_Graph.mk s44)).bind fun y313 =>
        (bif (y313 == y288) then
          some (.inr (.inr (.inr (graph_Graph.mk s44))))
        else
          some (.inl s44))))
    fun s42 =>
      some (.inl ((IntKind.i64.wrap (s24.1 + (1 : Int))), s42)))
  else
    some (.inr (.inl s24.2)))
noncomputable def law07_known (l_ : (List api_Node)) : Option (graph_Graph) :=
  (graph_New).bind fun y1 =>
  (seqF (A := (List (Int × graph_entry))) (
    loopF (law07_known_L2 l_) ((0 : Int), y1.nodes))
  fun s23 =>
    some (graph_Graph.mk s23))
theorem law07_known_fn {dr : Prop} {l_ : (List api_Node)} {r : graph_Graph} (h : law07_known l_ = some r) : FnO dr Try.prog 11 [] [VF (List.map api_Node.enc l_)] (.hp [.lp 1000002 1 0, .im (.i .i64) (mapE (Value.int .i64) (fun x => D.ag (graph_entry.enc x)) r.nodes), .ib [.mp 1000001 1]]) := by
  refine FnO.of_AW (dr := dr) (F := FnX dr Try.prog) (base := 0) (jl := [6, 12, 14]) mixed tok noeqs (fun _ _ _ h => h) Try.call11 Try.func11 rfl Try.ntmps11 (by rw [Try.results11]) (by simp) (by simp) ?_; have hG : (fun x => x = r) r := rfl; unfold law07_known at h; refine Zap 2 rfl ?_; refine Zo (.d (.v (.pointer none))) rfl rfl ?_; refine Zpp 4 rfl ?_; refine Y1 rfl ?_; refine bindK h fun y1 hy1 h => ?_; refine W.call rfl (graph_New_fn hy1) ?_; refine W.det (.lp 536870919 1 0) (Mem.add (Mem.add _ 268435463 (.mapi (.i .i64) (mapE (Value.int .i64) (fun x => D.ag (graph_entry.enc x)) y1.nodes))) 536870919 (.box [.mp 268435463 1])) rfl ?_; refine Zpc 13 rfl ?_; refine A.join (fun (s23 : (List (Int × graph_entry))) => [(3, .lp 900000 1 0)]) (fun s23 => [(900000, .box [.mp 900001 1]), (900001, .mapi (.i .i64) (mapE (Value.int .i64) (fun x => D.ag (graph_entry.enc x)) s23))]) _ h hG rfl ?_ ?_
  · intro J f h hG; refine Zac 6 rfl ?_; refine A.loop (fun (s24 : Int × (List (Int × graph_entry))) => [(0, VF (List.map api_Node.enc l_)), (3, .lp 900000 1 0), (4, VI s24.1)]) (fun s24 => [(900000, .box [.mp 900001 1]), (900001, .mapi (.i .i64) (mapE (Value.int .i64) (fun x => D.ag (graph_entry.enc x)) s24.2))]) _ h hG (Zf [] [(900000, (536870919, 1)), (900001, (268435463, 1))] rfl rfl (Ze rfl rfl (Ze rfl rfl (Ze rfl rfl trivial))) (Zc rfl rfl (Zc rfl rfl trivial))) ?_; intro J s24 f h hG; unfold law07_known_L2 at h; refine Zap 5 rfl ?_; refine Y1 rfl ?_; refine W.len rfl ?_; refine Zpc 3 rfl ?_; refine A.condB rfl h (fun _ h => ?_) (fun _ h => ?_)
    · refine Zcc 2 rfl ?_; refine A.join (fun (s42 : (List (Int × graph_entry))) => [(0, VF (List.map api_Node.enc l_)), (3, .lp 900000 1 0), (4, VI s24.1)]) (fun s42 => [(900000, .box [.mp 900001 1]), (900001, .mapi (.i .i64) (mapE (Value.int .i64) (fun x => D.ag (graph_entry.enc x)) s42))]) _ h hG rfl ?_ ?_
      · intro J f h hG; refine Zap 4 rfl ?_; refine Y1 rfl ?_; refine bindK h fun y288 hy288 h => ?_; refine W.call rfl (Fn.toO (graph_Graph_Len_fn hy288) trivial rfl) ?_; refine Zwc 4 rfl ?_; refine A.join (fun (s44 : (List (Int × graph_entry))) => [(0, VF (List.map api_Node.enc l_)), (3, .lp 900000 1 0), (4, VI s24.1), (5, VI y288)]) (fun s44 => [(900000, .box [.mp 900001 1]), (900001, .mapi (.i .i64) (mapE (Value.int .i64) (fun x => D.ag (graph_entry.enc x)) s44))]) _ h hG rfl ?_ ?_
        · intro J f h hG; refine Zac 6 rfl ?_; refine A.loop (fun (s45 : Int × (List (Int × graph_entry))) => [(0, VF (List.map api_Node.enc l_)), (3, .lp 900000 1 0), (4, VI s24.1), (5, VI y288), (6, VI s45.1)]) (fun s45 => [(900000, .box [.mp 900001 1]), (900001, .mapi (.i .i64) (mapE (Value.int .i64) (fun x => D.ag (graph_entry.enc x)) s45.2))]) _ h hG (Zf [] [(900000, (900000, 1)), (900001, (900001, 1))] rfl rfl (Ze rfl rfl (Ze rfl rfl (Ze rfl rfl (Ze rfl rfl (Ze rfl rfl trivial))))) (Zc rfl rfl (Zc rfl rfl trivial))) ?_; intro J s45 f h hG; unfold law07_known_L1 at h; refine Zap 5 rfl ?_; refine Y1 rfl ?_; refine W.len rfl ?_; refine Zpc 3 rfl ?_; refine A.condB rfl h (fun _ h => ?_) (fun _ h => ?_)
          · refine Zcp 8 rfl ?_; refine Y1 rfl ?_; refine bindK h fun x311 hx311 h => ?_; refine W.chk rfl (elemB hx311) ?_; refine W.elem rfl (elemG hx311) ?_; refine W.chk rfl rfl ?_; refine W.det (.fp [.v (.int .i64 x311.Id), .fz (List.map (encI .i64) x311.Parents)]) _ rfl ?_; refine Zo (.agg (api_Node.av x311)) rfl rfl ?_; refine Y1 rfl ?_; refine bindK h fun y312 hy312 h => ?_; refine W.call rfl (graph_Graph_Add_fn hy312) ?_; refine W.det (VI y312.1) (Mem.set (Mem.set _ 900000 1 (some (.box [.mp 900001 1]))) 900001 1 (some (.mapi (.i .i64) (mapE (Value.int .i64) (fun x => D.ag (graph_entry.enc x)) y312.2.nodes)))) rfl ?_; refine Zpb 8 rfl ?_; cases h; exact Zh hG [] [(900000, (900000, 1)), (900001, (900001, 1))] rfl rfl (Ze rfl rfl (Ze rfl rfl (Ze rfl rfl (Ze rfl rfl (Ze rfl rfl trivial))))) (Zc rfl rfl (Zc rfl rfl trivial))
          · refine Zcb 2 rfl ?_; refine headK.e ?_; refine Zob 1 rfl ?_; cases h; exact Zh hG [] [(900000, (900000, 1)), (900001, (900001, 1))] rfl rfl (Ze rfl rfl (Ze rfl rfl (Ze rfl rfl (Ze rfl rfl trivial)))) (Zc rfl rfl (Zc rfl rfl trivial))
        · intro s44 r2 h hG; refine Zcp 3 rfl ?_; refine Y1 rfl ?_; refine bindK h fun y313 hy313 h => ?_; refine W.call rfl (Fn.toO (graph_Graph_Len_fn hy313) trivial rfl) ?_; refine Zwc 5 rfl ?_; refine A.condB rfl h (fun _ h => ?_) (fun _ h => ?_)
          · refine Zcb 8 rfl ?_; refine headK.r ?_; refine headK.r ?_; refine Zob 1 rfl ?_; refine headK.r ?_; cases h; cases hG; exact ⟨[], [(900001, 1), (900000, 1)], ⟨⟨rfl, rfl⟩, ⟨rfl, trivial⟩, trivial⟩, rfl, rfl⟩
          · refine Zcb 2 rfl ?_; cases h; exact Zh hG [] [(900000, (900000, 1)), (900001, (900001, 1))] rfl rfl (Ze rfl rfl (Ze rfl rfl (Ze rfl rfl trivial))) (Zc rfl rfl (Zc rfl rfl trivial))
      · intro s42 r2 h hG; refine Zcb 5 rfl ?_; cases h; exact Zh hG [] [(900000, (900000, 1)), (900001, (900001, 1))] rfl rfl (Ze rfl rfl (Ze rfl rfl (Ze rfl rfl trivial))) (Zc rfl rfl (Zc rfl rfl trivial))
    · refine Zcb 2 rfl ?_; refine headK.e ?_; refine Zob 1 rfl ?_; cases h; exact Zh hG [] [(900000, (900000, 1)), (900001, (900001, 1))] rfl rfl (Ze rfl rfl trivial) (Zc rfl rfl (Zc rfl rfl trivial))
  · intro s23 r2 h hG; refine Zcb 7 rfl ?_; cases h; cases hG; exact ⟨[], [(900001, 1), (900000, 1)], ⟨⟨rfl, rfl⟩, ⟨rfl, trivial⟩, trivial⟩, rfl, rfl⟩
noncomputable def ref07_Has_L1 (l_ : (List Int)) (n_ : Int) (s3 : Int) : Option ((Int) ⊕ ((Unit) ⊕ (Bool))) :=
  (bif (decide (s3 < (l_.length : Int))) then
    (getI l_ s3).bind fun x12 =>
    (bif (x12 == n_) then
      some (.inr (.inr true))
    else
      some (.inl (IntKind.i64.wrap (s3 + (1 : Int)))))
  else
    some (.inr (.inl ())))
noncomputable def ref07_Has (l_ : (List Int)) (n_ : Int) : Option (Bool) :=
  (seqF (A := Unit) (
    loopF (ref07_Has_L1 l_ n_) (0 : Int))
  fun s2 =>
    some false)
theorem ref07_Has_fn {dr : Prop} {l_ : (List Int)} {n_ : Int} {r : Bool} (h : ref07_Has l_ n_ = some r) : Fn dr Try.prog 27 [VF (List.map (encI .i64) l_), VI n_] (VB r) := by
  refine Fn.of_AW (dr := dr) (F := FnX dr Try.prog) (base := 0) (js := [6]) mixed tok noeqs (fun _ _ _ h => h) Try.call27 Try.func27 rfl Try.ntmps27 (by rw [Try.results27]) (by simp) ?_; have hG : (fun x => x = r) r := rfl; unfold ref07_Has at h; refine Zac 5 rfl ?_; refine A.join (fun (s2 : Unit) => []) (fun s2 => []) _ h hG rfl ?_ ?_
  · intro J f h hG; refine Zac 6 rfl ?_; refine A.loop (fun (s3 : Int) => [(0, VF (List.map (encI .i64) l_)), (1, VI n_), (5, VI s3)]) (fun s3 => []) _ h hG (Zf [] [] rfl rfl (Ze rfl rfl (Ze rfl rfl (Ze rfl rfl trivial))) trivial) ?_; intro J s3 f h hG; unfold ref07_Has_L1 at h; refine Zap 5 rfl ?_; refine Y1 rfl ?_; refine W.len rfl ?_; refine Zpc 3 rfl ?_; refine A.condB rfl h (fun _ h => ?_) (fun _ h => ?_)
    · refine Zcp 8 rfl ?_; refine Y1 rfl ?_; refine bindK h fun x12 hx12 h => ?_; refine W.chk rfl (elemB hx12) ?_; refine W.elem rfl (elemG hx12) ?_; refine W.chk rfl rfl ?_; refine W.det (.fp [.v (.int .i64 x12)]) _ rfl ?_; refine Zpc 5 rfl ?_; refine A.condB rfl h (fun _ h => ?_) (fun _ h => ?_)
      · refine Zcb 8 rfl ?_; refine headK.r ?_; refine Zob 1 rfl ?_; refine headK.r ?_; cases h; cases hG; exact ⟨rfl, trivial⟩
      · refine Zcb 8 rfl ?_; cases h; exact Zh hG [] [] rfl rfl (Ze rfl rfl (Ze rfl rfl (Ze rfl rfl trivial))) trivial
    · refine Zcb 2 rfl ?_; refine headK.e ?_; refine Zob 1 rfl ?_; cases h; exact Zh hG [] [] rfl rfl trivial trivial
  · intro s2 r2 h hG; refine Zcb 6 rfl ?_; cases h; cases hG; exact ⟨rfl, trivial⟩
noncomputable def law07_all_L1 (l_ : (List api_Node)) (g_ : graph_Graph) (s3 : Int × (List Int)) : Option ((Int × (List Int)) ⊕ (((List Int)) ⊕ ((List Int)))) :=
  (bif (decide (s3.1 < (l_.length : Int))) then
    (getI l_ s3.1).bind fun x81 =>
    (graph_Graph_Has g_ x81.Id).bind fun y82 =>
    (bif y82 then
      (ref07_Has s3.2 x81.Id).bind fun y83 =>
      (bif (!y83) then
        (chkO (decide (s3.2.length + [x81.Id].length ≤ 1000000))).bind fun _ =>
        some (.inl ((IntKind.i64.wrap (s3.1 + (1 : Int))), (s3.2 ++ [x81.Id])))
      else
        some (.inl ((IntKind.i64.wrap (s3.1 + (1 : Int))), s3.2)))
    else
      some (.inl ((IntKind.i64.wrap (s3.1 + (1 : Int))), s3.2)))
  else
    some (.inr (.inl s3.2)))
noncomputable def law07_all (g_ : graph_Graph) (l_ : (List api_Node)) : Option ((List Int)) :=
  (seqF (A := (List Int)) (
    loopF (law07_all_L1 l_ g_) ((0 : Int), ([] : List Int)))
  fun s2 =>
    some s2)
theorem law07_all_fn {dr : Prop} {g_ : graph_Graph} {l_ : (List api_Node)} {r : (List Int)} (h : law07_all g_ l_ = some r) : Fn dr Try.prog 12 [.fp [.mz (.i .i64) (mapE (Value.int .i64) (fun x => D.ag (graph_entry.enc x)) g_.nodes)], VF (List.map api_Node.enc l_)] (.ow 1 (List.map (encI .i64) r)) := by
  refine Fn.of_AW (dr := dr) (F := FnX dr Try.prog) (base := 0) (js := [7]) mixed tok noeqs (fun _ _ _ h => h) Try.call12 Try.func12 rfl Try.ntmps12 (by rw [Try.results12]) (by simp) ?_; have hG : (fun x => x = r) r := rfl; unfold law07_all at h; refine Zap 2 rfl ?_; refine Zm (.row 4 1 0) (Mem.add _ 4 (.rows 1 (List.map (encI .i64) ([] : List Int)) false)) rfl rfl ?_; refine Zpp 4 rfl ?_; refine Zm (.row 5 1 0) (Mem.add _ 5 (.rows 1 (List.map (encI .i64) ([] : List Int)) false)) rfl rfl ?_; refine Zpc 2 rfl ?_; refine A.join (fun (s2 : (List Int)) => [(5, .row 900000 1 s2.length)]) (fun s2 => [(900000, .rows 1 (List.map (encI .i64) s2) false)]) _ h hG rfl ?_ ?_
  · intro J f h hG; refine Zac 6 rfl ?_; refine A.loop (fun (s3 : Int × (List Int)) => [(0, .fp [.mz (.i .i64) (mapE (Value.int .i64) (fun x => D.ag (graph_entry.enc x)) g_.nodes)]), (1, VF (List.map api_Node.enc l_)), (5, .row 900000 1 s3.2.length), (6, VI s3.1)]) (fun s3 => [(900000, .rows 1 (List.map (encI .i64) s3.2) false)]) _ h hG (Zf [] [(900000, (5, 1))] rfl rfl (Ze rfl rfl (Ze rfl rfl (Ze rfl rfl (Ze rfl rfl trivial)))) (Zc rfl rfl trivial)) ?_; intro J s3 f h hG; unfold law07_all_L1 at h; refine Zap 5 rfl ?_; refine Y1 rfl ?_; refine W.len rfl ?_; refine Zpc 3 rfl ?_; refine A.condB rfl h (fun _ h => ?_) (fun _ h => ?_)
    · refine Zcp 6 rfl ?_; refine Zo (.fp [.mz (.i .i64) (mapE (Value.int .i64) (fun x => D.ag (graph_entry.enc x)) g_.nodes)]) rfl rfl ?_; refine Zpp 2 rfl ?_; refine Y1 rfl ?_; refine bindK h fun x81 hx81 h => ?_; refine W.chk rfl (elemB hx81) ?_; refine W.elem rfl (elemG hx81) ?_; refine W.chk rfl rfl ?_; refine W.det (.fp [.v (.int .i64 x81.Id), .fz (List.map (encI .i64) x81.Parents)]) _ rfl ?_; refine Zo (.fp [.v (.int .i64 x81.Id), .fz (List.map (encI .i64) x81.Parents)]) rfl rfl ?_; refine Zpp 1 rfl ?_; refine Y1 rfl ?_; refine bindK h fun y82 hy82 h => ?_; refine W.call rfl (Fn.toO (graph_Graph_Has_fn hy82) trivial rfl) ?_; refine Zwp 2 rfl ?_; refine YT rfl rfl rfl h (fun _ h => ?_) (fun _ h => ?_)
      · refine W.det (.row 900000 1 s3.2.length) _ rfl ?_; refine Zpp 2 rfl ?_; refine Y2 rfl rfl rfl ?_; refine W.chk rfl (elemB hx81) ?_; refine W.elem rfl (elemG hx81) ?_; refine W.chk rfl rfl ?_; refine W.det (.fp [.v (.int .i64 x81.Id), .fz (List.map (encI .i64) x81.Parents)]) _ rfl ?_; refine Zu (.fp [.v (.int .i64 x81.Id), .fz (List.map (encI .i64) x81.Parents)]) rfl rfl rfl rfl ?_; refine Zpp 1 rfl ?_; refine Y2 rfl rfl rfl ?_; refine bindK h fun y83 hy83 h => ?_; refine W.call rfl (ref07_Has_fn hy83) ?_; refine Zwc 5 rfl ?_; refine A.condB rfl h (fun _ h => ?_) (fun _ h => ?_)
        · refine Zcp 1 rfl ?_; refine Zo (.row 900000 1 s3.2.length) rfl rfl ?_; refine Zpp 2 rfl ?_; refine Y1 rfl ?_; refine W.chk rfl (elemB hx81) ?_; refine W.elem rfl (elemG hx81) ?_; refine W.chk rfl rfl ?_; refine W.det (.fp [.v (.int .i64 x81.Id), .fz (List.map (encI .i64) x81.Parents)]) _ rfl ?_; refine Zo (.fp [.v (.int .i64 x81.Id), .fz (List.map (encI .i64) x81.Parents)]) rfl rfl ?_; refine Zpp 1 rfl ?_; refine Zm (.row 36 2 1) (Mem.add _ 36 (.rows 1 (List.map (encI .i64) [x81.Id]) false)) rfl rfl ?_; refine Y1 rfl ?_; refine chkK h fun g84 h => ?_; refine W.chk rfl (appChk (fun _ => rfl) g84) ?_; refine W.app rfl rfl ?_; refine Zo (.row 900000 2 (s3.2 ++ [x81.Id]).length) rfl rfl ?_; refine Zpb 8 rfl ?_; cases h; exact Zh hG [] [(900000, (900000, 2))] rfl rfl (Ze rfl rfl (Ze rfl rfl (Ze rfl rfl (Ze rfl rfl trivial)))) (Zc rfl rfl trivial)
        · refine Zcb 8 rfl ?_; cases h; exact Zh hG [] [(900000, (900000, 1))] rfl rfl (Ze rfl rfl (Ze rfl rfl (Ze rfl rfl (Ze rfl rfl trivial)))) (Zc rfl rfl trivial)
      · refine Zpb 19 rfl ?_; cases h; exact Zh hG [] [(900000, (900000, 1))] rfl rfl (Ze rfl rfl (Ze rfl rfl (Ze rfl rfl (Ze rfl rfl trivial)))) (Zc rfl rfl trivial)
    · refine Zcb 2 rfl ?_; refine headK.e ?_; refine Zob 1 rfl ?_; cases h; exact Zh hG [] [(900000, (900000, 1))] rfl rfl (Ze rfl rfl trivial) (Zc rfl rfl trivial)
  · intro s2 r2 h hG; refine Zcp 2 rfl ?_; refine Zo (.row 900000 1 s2.length) rfl rfl ?_; refine Zo (.row 900000 1 s2.length) rfl rfl ?_; refine Zpb 3 rfl ?_; cases h; cases hG; exact ⟨rfl, rfl, trivial⟩
theorem maps_Clone_map_int_graph_entry_int_graph_entry_fn {dr : Prop} {m_ r : (List (Int × graph_entry))} (h : some m_ = some r) : FnO dr Try.prog 43 [.im (.i .i64) (mapE (Value.int .i64) (fun x => D.ag (graph_entry.enc x)) m_)] [.mp 1000001 1] (.hp [.mp 1000002 1, .nl, .im (.i .i64) (mapE (Value.int .i64) (fun x => D.ag (graph_entry.enc x)) r)]) := by
  cases h; exact clone_fno Try.call43 fun b es clock w hb => AnyW.maps_Clone Try.mclone43 b es clock w hb
noncomputable def graph_Graph_Copy (g_ : graph_Graph) : Option (graph_Graph) :=
  (some g_.nodes).bind fun y1 =>
  some (graph_Graph.mk y1)
theorem graph_Graph_Copy_fn {dr : Prop} {g_ : graph_Graph} {r : graph_Graph} (h : graph_Graph_Copy g_ = some r) : FnO dr Try.prog 13 [.ib [.mp 1000002 1], .im (.i .i64) (mapE (Value.int .i64) (fun x => D.ag (graph_entry.enc x)) g_.nodes)] [.lp 1000001 1 0] (.hp [.lp 1000004 1 0, .nl, .nl, .im (.i .i64) (mapE (Value.int .i64) (fun x => D.ag (graph_entry.enc x)) r.nodes), .ib [.mp 1000003 1]]) := by
  refine FnO.of_AW (dr := dr) (F := FnX dr Try.prog) (base := 0) (jl := []) mixed tok noeqs (fun _ _ _ h => h) Try.call13 Try.func13 rfl Try.ntmps13 (by rw [Try.results13]) (by simp) (by simp) ?_; have hG : (fun x => x = r) r := rfl; unfold graph_Graph_Copy at h; refine Zap 2 rfl ?_; refine Zo (.d (.v (.pointer none))) rfl rfl ?_; refine Zpp 5 rfl ?_; refine Zo (.lp 1000001 1 0) rfl rfl ?_; refine Zpp 1 rfl ?_; refine Zo (.mp 1000002 1) rfl rfl ?_; refine Y1 rfl ?_; refine bindK h fun y1 hy1 h => ?_; refine W.call rfl (maps_Clone_map_int_graph_entry_int_graph_entry_fn hy1) ?_; refine W.det (.mp 268435463 1) (Mem.add _ 268435463 (.mapi (.i .i64) (mapE (Value.int .i64) (fun x => D.ag (graph_entry.enc x)) y1))) rfl ?_; refine Zo (.agg [.mp 268435463 1]) rfl rfl ?_; refine Zm (.lp 9 1 0) (Mem.add _ 9 (.box [.mp 268435463 1])) rfl rfl ?_; refine Zpb 4 rfl ?_; cases h; cases hG; exact ⟨[], [(268435463, 1), (9, 1)], ⟨⟨rfl, trivial⟩, ⟨rfl, rfl⟩, ⟨rfl, rfl⟩, ⟨rfl, trivial⟩, trivial⟩, rfl, rfl⟩
noncomputable def maps_EqualFunc_map_int_graph_entry_map_int_graph_entry_int_graph_entry_graph_entry_R1d (s1 : Unit) : Option (Bool) :=
  some true
noncomputable def maps_EqualFunc_map_int_graph_entry_map_int_graph_entry_int_graph_entry_graph_entry_R1b (m2_ : (List (Int × graph_entry))) (eq_ : (graph_entry → graph_entry → Option (Bool))) (s1 : Unit) (q1 : (Int × graph_entry)) : Option ((Unit) ⊕ (Bool)) :=
  (bif (!(mhasT q1.1 m2_)) then
    some (.inr false)
  else
    (eq_ q1.2 (graph_entry.mk (mgetT q1.1 m2_ (graph_entry.mk ([] : List Int) (0 : Int))).parents (mgetT q1.1 m2_ (graph_entry.mk ([] : List Int) (0 : Int))).level)).bind fun y5 =>
    (bif (!y5) then
      some (.inr false)
    else
      some (.inl ())))
noncomputable def maps_EqualFunc_map_int_graph_entry_map_int_graph_entry_int_graph_entry_graph_entry (m1_ : (List (Int × graph_entry))) (m2_ : (List (Int × graph_entry))) (eq_ : (graph_entry → graph_entry → Option (Bool))) : Option (Bool) :=
  (bif ((m1_.length : Int) != (m2_.length : Int)) then
    some false
  else
    permO m1_ fun l_ => rangeF (maps_EqualFunc_map_int_graph_entry_map_int_graph_entry_int_graph_entry_graph_entry_R1d) (maps_EqualFunc_map_int_graph_entry_map_int_graph_entry_int_graph_entry_graph_entry_R1b m2_ eq_) l_ ())
theorem maps_EqualFunc_map_int_graph_entry_map_int_graph_entry_int_graph_entry_graph_entry_fn {dr : Prop} {m1_ : (List (Int × graph_entry))} {m2_ : (List (Int × graph_entry))} {eq_ : (graph_entry → graph_entry → Option (Bool))} {eq_F : FuncId} {eq_C : List AV} (eq_H : eq_C.all capd = true) (eq_P : ∀ (q0 : graph_entry) (q1 : graph_entry) (z : Bool), eq_ q0 q1 = some z → Fn dr Try.prog eq_F ([.agg [.d (.fz (List.map (encI .i64) q0.parents)), .d (.v (.int .i64 q0.level))], .agg [.d (.fz (List.map (encI .i64) q1.parents)), .d (.v (.int .i64 q1.level))]] ++ eq_C) (.d (.v (.bool z)))) {r : Bool} (h : maps_EqualFunc_map_int_graph_entry_map_int_graph_entry_int_graph_entry_graph_entry m1_ m2_ eq_ = some r) : Fn dr Try.prog 47 [.d (.mz (.i .i64) (mapE (Value.int .i64) (fun x => D.ag (graph_entry.enc x)) m1_)), .d (.mz (.i .i64) (mapE (Value.int .i64) (fun x => D.ag (graph_entry.enc x)) m2_)), .fn eq_F eq_C] (.d (.v (.bool r))) := by
  refine Fn.of_AX (dr := dr) tok Try.call47 Try.func47 rfl Try.ntmps47 (by rw [Try.results47]) (by simp) ?_
  have hG : (fun x => x = r) r := rfl
  unfold maps_EqualFunc_map_int_graph_entry_map_int_graph_entry_int_graph_entry_graph_entry at h
  refine AX.seq ?_
  refine AX.aw (base := 0) (js := []) (F := FnX dr Try.prog) mixed tok noeqs (fun _ _ _ h => h) ?_
  refine A.region ?_
  refine R.one rfl ?_
  refine W.det (.kb false) _ rfl ?_
  refine R.nil ?_
  refine seqK.n ?_
  refine AX.seq ?_
  refine AX.aw (base := 0) (js := []) (F := FnX dr Try.prog) mixed tok noeqs (fun _ _ _ h => h) ?_
  refine A.seq rfl ?_
  refine A.region ?_
  refine R.one rfl ?_
  refine W.det (.d (.mz (.i .i64) (mapE (Value.int .i64) (fun x => D.ag (graph_entry.enc x)) m1_))) _ rfl ?_
  refine R.one rfl ?_
  refine W.lenM rfl ?_
  refine R.one rfl ?_
  refine W.det (.d (.mz (.i .i64) (mapE (Value.int .i64) (fun x => D.ag (graph_entry.enc x)) m2_))) _ rfl ?_
  refine R.one rfl ?_
  refine W.lenM rfl ?_
  refine R.one rfl ?_
  refine W.det (.d (.v (.bool ((m1_.length : Int) != (m2_.length : Int))))) _ rfl ?_
  refine R.nil ?_
  refine seqK.n ?_
  refine A.condB rfl h (fun _ h => ?_) (fun _ h => ?_)
  · refine A.seq rfl ?_
    refine A.region ?_
    refine R.one rfl ?_
    refine W.det (.kb false) _ rfl ?_
    refine R.nil ?_
    refine seqK.n ?_
    refine A.ret ?_
    refine seqK.r ?_
    injection h with h
    subst h
    cases hG
    exact ⟨rfl, trivial⟩
  · refine A.skip ?_
    refine seqK.n ?_
    refine AX.seq ?_
    refine AX.range (base := 0) (F := FnX dr Try.prog) (js := []) (kt := 3) (et := 60) mixed tok noeqs (fun _ _ _ h => h) rfl rfl rfl rfl (by decide) rfl rfl rfl rfl (by decide) rfl rfl rfl (by decide) rfl rfl rfl (by decide) (by decide) ?_
    refine R.one rfl ?_
    refine W.det (.d (.mz (.i .i64) (mapE (Value.int .i64) (fun x => D.ag (graph_entry.enc x)) m1_))) _ rfl ?_
    refine R.nil ?_
    refine X.range (fun r_ (s1 : Unit) => [(1, .d (.mz (.i .i64) (mapE (Value.int .i64) (fun x => D.ag (graph_entry.enc x)) m2_))), (2, .fn eq_F eq_C), (17, ptrV r_)]) (fun s1 => []) _ h hG rfl (fun r_ => Enters.of [] [] _ rfl rfl (chkE.c rfl rfl (chkE.g eq_H rfl (chkE.c rfl rfl trivial))) trivial) (fun _ _ => ⟨rfl, rfl⟩) ?_ ?_
    · intro r_ s1 f h hG
      unfold maps_EqualFunc_map_int_graph_entry_map_int_graph_entry_int_graph_entry_graph_entry_R1d at h
      refine seqK.n ?_
      refine AX.aw (base := 0) (js := []) (F := FnX dr Try.prog) mixed tok noeqs (fun _ _ _ h => h) ?_
      refine A.seq rfl ?_
      refine A.region ?_
      refine R.one rfl ?_
      refine W.det (.kb true) _ rfl ?_
      refine R.nil ?_
      refine seqK.n ?_
      refine A.ret ?_
      injection h with h
      subst h
      cases hG
      exact ⟨rfl, trivial⟩
    · intro r_ J s1 q1 f h hG
      unfold maps_EqualFunc_map_int_graph_entry_map_int_graph_entry_int_graph_entry_graph_entry_R1b at h
      refine R.one rfl ?_
      refine W.det (.d (.v (.int .i64 q1.1))) _ rfl ?_
      refine R.one rfl ?_
      refine W.det (.agg [.d (.fz (List.map (encI .i64) q1.2.parents)), .d (.v (.int .i64 q1.2.level))]) _ rfl ?_
      refine R.one rfl ?_
      refine W.det (.lp 8 2 0) (Mem.add (Mem.add _ 65544 (.rows 1 (List.map (encI .i64) ([] : List Int)) false)) 8 (.box [.row 65544 2 0, .d (.v (.int .i64 (0 : Int)))])) rfl ?_
      refine R.one rfl ?_
      refine W.det (.d (.v (.int .i64 q1.1))) _ rfl ?_
      refine R.one rfl ?_
      refine W.det (.tup []) (Mem.set _ 8 2 (some (.box [.d (.fz (List.map (encI .i64) q1.2.parents)), .d (.v (.int .i64 q1.2.level))]))) rfl ?_
      refine R.nil ?_
      refine A.seq rfl ?_
      refine A.region ?_
      refine R.one rfl ?_
      refine W.det (.d (.mz (.i .i64) (mapE (Value.int .i64) (fun x => D.ag (graph_entry.enc x)) m2_))) _ rfl ?_
      refine R.one rfl ?_
      refine W.det (.d (.v (.int .i64 q1.1))) _ rfl ?_
      refine R.one rfl ?_
      refine W.look2 (Value.int .i64) (fun x => D.ag (graph_entry.enc x)) q1.1 m2_ (graph_entry.mk ([] : List Int) (0 : Int)) (fun _ _ => rfl) rfl ?_
      refine R.one rfl ?_
      refine W.det (.tup [.agg [.d (.fz (List.map (encI .i64) (mgetT q1.1 m2_ (graph_entry.mk ([] : List Int) (0 : Int))).parents)), .d (.v (.int .i64 (mgetT q1.1 m2_ (graph_entry.mk ([] : List Int) (0 : Int))).level))], .d (.v (.bool (mhasT q1.1 m2_)))]) _ rfl ?_
      refine R.one rfl ?_
      refine W.det (.agg [.d (.fz (List.map (encI .i64) (mgetT q1.1 m2_ (graph_entry.mk ([] : List Int) (0 : Int))).parents)), .d (.v (.int .i64 (mgetT q1.1 m2_ (graph_entry.mk ([] : List Int) (0 : Int))).level))]) _ rfl ?_
      refine R.one rfl ?_
      refine W.det (.d (.v (.bool (mhasT q1.1 m2_)))) _ rfl ?_
      refine R.one rfl ?_
      refine W.det (.lp 9 2 0) (Mem.add (Mem.add _ 65545 (.rows 1 (List.map (encI .i64) ([] : List Int)) false)) 9 (.box [.row 65545 2 0, .d (.v (.int .i64 (0 : Int)))])) rfl ?_
      refine R.one rfl ?_
      refine W.det (.tup []) (Mem.set _ 9 2 (some (.box [.d (.fz (List.map (encI .i64) (mgetT q1.1 m2_ (graph_entry.mk ([] : List Int) (0 : Int))).parents)), .d (.v (.int .i64 (mgetT q1.1 m2_ (graph_entry.mk ([] : List Int) (0 : Int))).level))]))) rfl ?_
      refine R.one rfl ?_
      refine W.det (.d (.v (.bool (mhasT q1.1 m2_)))) _ rfl ?_
      refine R.nil ?_
      refine seqK.n ?_
      refine A.seq rfl ?_
      refine A.region ?_
      refine R.one rfl ?_
      refine W.det (.d (.v (.bool (mhasT q1.1 m2_)))) _ rfl ?_
      refine R.one rfl ?_
      refine W.det (.d (.v (.bool (!(mhasT q1.1 m2_))))) _ rfl ?_
      refine R.one rfl ?_
      refine W.det (.d (.v (.bool (!(mhasT q1.1 m2_))))) _ rfl ?_
      refine R.gF rfl rfl rfl h (fun _ h => ?_) (fun _ h => ?_)
      · refine R.skip rfl rfl rfl ?_
        refine R.skip rfl rfl rfl ?_
        refine R.skip rfl rfl rfl ?_
        refine R.skip rfl rfl rfl ?_
        refine R.one rfl ?_
        refine W.det (.kb true) _ rfl ?_
        refine R.nil ?_
        refine seqK.n ?_
        refine A.condT rfl ?_
        refine A.seq rfl ?_
        refine A.region ?_
        refine R.one rfl ?_
        refine W.det (.kb false) _ rfl ?_
        refine R.nil ?_
        refine seqK.n ?_
        refine A.ret ?_
        refine rangeK.r ?_
        refine seqK.r ?_
        injection h with h
        subst h
        cases hG
        exact ⟨rfl, trivial⟩
      · refine W.det (.fn eq_F eq_C) _ rfl ?_
        refine R.run rfl rfl rfl ?_
        refine W.det (.agg [.d (.fz (List.map (encI .i64) q1.2.parents)), .d (.v (.int .i64 q1.2.level))]) _ rfl ?_
        refine R.run rfl rfl rfl ?_
        refine W.det (.agg [.d (.fz (List.map (encI .i64) (mgetT q1.1 m2_ (graph_entry.mk ([] : List Int) (0 : Int))).parents)), .d (.v (.int .i64 (mgetT q1.1 m2_ (graph_entry.mk ([] : List Int) (0 : Int))).level))]) _ rfl ?_
        refine R.run rfl rfl rfl ?_
        refine bindK h fun y5 hy5 h => ?_
        refine callG rfl rfl rfl eq_H ?_
        refine W.call rfl (eq_P _ _ _ hy5) ?_
        refine W.det (.d (.v (.bool y5))) _ rfl ?_
        refine R.run rfl rfl rfl ?_
        refine W.det (.d (.v (.bool (!y5)))) _ rfl ?_
        refine R.one rfl ?_
        refine W.det (.d (.v (.bool (!y5)))) _ rfl ?_
        refine R.nil ?_
        refine seqK.n ?_
        refine A.condB rfl h (fun _ h => ?_) (fun _ h => ?_)
        · refine A.seq rfl ?_
          refine A.region ?_
          refine R.one rfl ?_
          refine W.det (.kb false) _ rfl ?_
          refine R.nil ?_
          refine seqK.n ?_
          refine A.ret ?_
          refine rangeK.r ?_
          refine seqK.r ?_
          injection h with h
          subst h
          cases hG
          exact ⟨rfl, trivial⟩
        · refine A.skip ?_
          injection h with h
          subst h
          exact rangeK.n hG (Enters.of [] [] _ rfl rfl (chkE.c rfl rfl (chkE.g eq_H rfl (chkE.c rfl rfl trivial))) trivial)
noncomputable def graph_Graph_Same_1 (a_ : graph_entry) (b_ : graph_entry) : Option (Bool) :=
  (slices_Equal_int_int a_.parents b_.parents).bind fun y1 =>
  some y1
theorem graph_Graph_Same_1_fn {dr : Prop} {a_ : graph_entry} {b_ : graph_entry} {r : Bool} (h : graph_Graph_Same_1 a_ b_ = some r) : Fn dr Try.prog 48 [.agg (graph_entry.av a_), .agg (graph_entry.av b_)] (VB r) := by
  refine Fn.of_AW (dr := dr) (F := FnX dr Try.prog) (base := 0) (js := []) mixed tok noeqs (fun _ _ _ h => h) Try.call48 Try.func48 rfl Try.ntmps48 (by rw [Try.results48]) (by simp) ?_; have hG : (fun x => x = r) r := rfl; unfold graph_Graph_Same_1 at h; refine Zap 2 rfl ?_; refine Zm (.lp 2 1 0) (Mem.add _ 2 (.box (graph_entry.av a_))) rfl rfl ?_; refine Zm (.lp 3 1 0) (Mem.add _ 3 (.box (graph_entry.av b_))) rfl rfl ?_; refine Zpp 9 rfl ?_; refine Y1 rfl ?_; refine bindK h fun y1 hy1 h => ?_; refine W.call rfl (slices_Equal_int_int_fn hy1) ?_; refine Zwb 5 rfl ?_; cases h; cases hG; exact ⟨rfl, trivial⟩
noncomputable def graph_Graph_Same (g_ : graph_Graph) (other_ : graph_Graph) : Option (Bool) :=
  (maps_EqualFunc_map_int_graph_entry_map_int_graph_entry_int_graph_entry_graph_entry g_.nodes other_.nodes graph_Graph_Same_1).bind fun y1 =>
  some y1
noncomputable def graph_Graph_Same_nil (g_ : graph_Graph) : Option (Bool) :=
  some false
theorem graph_Graph_Same_fn {dr : Prop} {g_ : graph_Graph} {other_ : graph_Graph} {r : Bool} (h : graph_Graph_Same g_ other_ = some r) : Fn dr Try.prog 22 [.fp [.mz (.i .i64) (mapE (Value.int .i64) (fun x => D.ag (graph_entry.enc x)) g_.nodes)], .fp [.mz (.i .i64) (mapE (Value.int .i64) (fun x => D.ag (graph_entry.enc x)) other_.nodes)]] (VB r) := by
  refine Fn.of_AW (dr := dr) (F := FnX dr Try.prog) (base := 0) (js := []) mixed tok noeqs (fun _ _ _ h => h) Try.call22 Try.func22 rfl Try.ntmps22 (by rw [Try.results22]) (by simp) ?_; have hG : (fun x => x = r) r := rfl; unfold graph_Graph_Same at h; refine Zac 6 rfl ?_; refine A.regionD (by kernel_rfl) ?_; refine Zo (.fp [.mz (.i .i64) (mapE (Value.int .i64) (fun x => D.ag (graph_entry.enc x)) other_.nodes)]) rfl rfl ?_; refine Zpp 2 rfl ?_; refine R.litY rfl rfl rfl ?_; refine W.det (.fp [.mz (.i .i64) (mapE (Value.int .i64) (fun x => D.ag (graph_entry.enc x)) g_.nodes)]) _ rfl ?_; refine Zu (.fp [.mz (.i .i64) (mapE (Value.int .i64) (fun x => D.ag (graph_entry.enc x)) g_.nodes)]) rfl rfl rfl rfl ?_; refine Zu (.fp [.mz (.i .i64) (mapE (Value.int .i64) (fun x => D.ag (graph_entry.enc x)) g_.nodes)]) rfl rfl rfl rfl ?_; refine Zu (.d (.mz (.i .i64) (mapE (Value.int .i64) (fun x => D.ag (graph_entry.enc x)) g_.nodes))) rfl rfl rfl rfl ?_; refine Zu (.fp [.mz (.i .i64) (mapE (Value.int .i64) (fun x => D.ag (graph_entry.enc x)) other_.nodes)]) rfl rfl rfl rfl ?_; refine Zu (.fp [.mz (.i .i64) (mapE (Value.int .i64) (fun x => D.ag (graph_entry.enc x)) other_.nodes)]) rfl rfl rfl rfl ?_; refine Zu (.fp [.mz (.i .i64) (mapE (Value.int .i64) (fun x => D.ag (graph_entry.enc x)) other_.nodes)]) rfl rfl rfl rfl ?_; refine Zu (.d (.mz (.i .i64) (mapE (Value.int .i64) (fun x => D.ag (graph_entry.enc x)) other_.nodes))) rfl rfl rfl rfl ?_; refine Y2 rfl rfl rfl ?_; refine bindK h fun y1 hy1 h => ?_; refine W.call rfl (maps_EqualFunc_map_int_graph_entry_map_int_graph_entry_int_graph_entry_graph_entry_fn (eq_F := 48) (eq_C := []) rfl (fun _ _ _ h => graph_Graph_Same_1_fn h) hy1) ?_; refine Zwb 6 rfl ?_; cases h; cases hG; exact ⟨rfl, trivial⟩
theorem graph_Graph_Same_nil_fn {dr : Prop} {g_ : graph_Graph} {r : Bool} (h : graph_Graph_Same_nil g_ = some r) : Fn dr Try.prog 22 [.fp [.mz (.i .i64) (mapE (Value.int .i64) (fun x => D.ag (graph_entry.enc x)) g_.nodes)], .d (.v (.pointer none))] (VB r) := by
  refine Fn.of_AW (dr := dr) (F := FnX dr Try.prog) (base := 0) (js := []) mixed tok noeqs (fun _ _ _ h => h) Try.call22 Try.func22 rfl Try.ntmps22 (by rw [Try.results22]) (by simp) ?_; have hG : (fun x => x = r) r := rfl; unfold graph_Graph_Same_nil at h; refine Zac 6 rfl ?_; refine A.regionD (by kernel_rfl) ?_; refine Zo (.d (.v (.pointer none))) rfl rfl ?_; refine Zpp 2 rfl ?_; refine R.litN rfl rfl rfl ?_; refine Zpb 13 rfl ?_; cases h; cases hG; exact ⟨rfl, trivial⟩
noncomputable def graph_Graph_Parents (g_ : graph_Graph) (id_ : Int) : Option ((List Int)) :=
  (slices_Clone_int_int (mgetT id_ g_.nodes (graph_entry.mk ([] : List Int) (0 : Int))).parents).bind fun y1 =>
  some y1
theorem graph_Graph_Parents_fn {dr : Prop} {g_ : graph_Graph} {id_ : Int} {r : (List Int)} (h : graph_Graph_Parents g_ id_ = some r) : Fn dr Try.prog 21 [.fp [.mz (.i .i64) (mapE (Value.int .i64) (fun x => D.ag (graph_entry.enc x)) g_.nodes)], VI id_] (.ow 1 (List.map (encI .i64) r)) := by
  refine Fn.of_AW (dr := dr) (F := FnX dr Try.prog) (base := 0) (js := []) mixed tok noeqs (fun _ _ _ h => h) Try.call21 Try.func21 rfl Try.ntmps21 (by rw [Try.results21]) (by simp) ?_; have hG : (fun x => x = r) r := rfl; unfold graph_Graph_Parents at h; refine Zap 2 rfl ?_; refine Zm (.row 4 1 0) (Mem.add _ 4 (.rows 1 (List.map (encI .i64) ([] : List Int)) false)) rfl rfl ?_; refine Zpp 4 rfl ?_; refine Zo (.fp [.mz (.i .i64) (mapE (Value.int .i64) (fun x => D.ag (graph_entry.enc x)) g_.nodes)]) rfl rfl ?_; refine Zo (.fp [.mz (.i .i64) (mapE (Value.int .i64) (fun x => D.ag (graph_entry.enc x)) g_.nodes)]) rfl rfl ?_; refine Zo (.fp [.mz (.i .i64) (mapE (Value.int .i64) (fun x => D.ag (graph_entry.enc x)) g_.nodes)]) rfl rfl ?_; refine Zo (.d (.mz (.i .i64) (mapE (Value.int .i64) (fun x => D.ag (graph_entry.enc x)) g_.nodes))) rfl rfl ?_; refine Zpp 1 rfl ?_; refine Y1 rfl ?_; refine W.look (Value.int .i64) (fun x => D.ag (graph_entry.enc x)) id_ g_.nodes (graph_entry.mk ([] : List Int) (0 : Int)) (fun _ _ => rfl) rfl ?_; refine Zpp 1 rfl ?_; refine Y1 rfl ?_; refine bindK h fun y1 hy1 h => ?_; refine W.call rfl (slices_Clone_int_int_fn hy1) ?_; refine W.v (.row 12 1 (List.map (encI .i64) y1).length) (.row 12 1 y1.length) (Mem.add _ 12 (.rows 1 (List.map (encI .i64) y1) false)) rfl (by simp only [List.length_map]) ?_; refine Zo (.row 12 1 y1.length) rfl rfl ?_; refine Zpb 3 rfl ?_; cases h; cases hG; exact ⟨rfl, rfl, trivial⟩
noncomputable def law07_alike_L1 (ids_ : (List Int)) (a_ : graph_Graph) (b_ : graph_Graph) (s3 : Int) : Option ((Int) ⊕ ((Unit) ⊕ (Bool))) :=
  (bif (decide (s3 < (ids_.length : Int))) then
    (getI ids_ s3).bind fun x248 =>
    (graph_Graph_Level a_ x248).bind fun y249 =>
    (graph_Graph_Level b_ x248).bind fun y250 =>
    (bif (y249 != y250) then
      some (.inr (.inr false))
    else
      (graph_Graph_Past a_ x248).bind fun y251 =>
      (graph_Graph_Past b_ x248).bind fun y252 =>
      (ref07_Same y251 y252).bind fun y253 =>
      (bif (!y253) then
        some (.inr (.inr false))
      else
        (graph_Graph_Parents a_ x248).bind fun y254 =>
        (graph_Graph_Parents b_ x248).bind fun y255 =>
        (ref07_Same y254 y255).bind fun y256 =>
        (bif (!y256) then
          some (.inr (.inr false))
        else
          some (.inl (IntKind.i64.wrap (s3 + (1 : Int)))))))
  else
    some (.inr (.inl ())))
noncomputable def law07_alike (a_ : graph_Graph) (b_ : graph_Graph) (ids_ : (List Int)) : Option (Bool) :=
  (graph_Graph_Same a_ b_).bind fun y31 =>
  (bif (!y31) then
    some false
  else
    (graph_Graph_Same b_ a_).bind fun y32 =>
    (bif (!y32) then
      some false
    else
      (graph_Graph_Len a_).bind fun y33 =>
      (graph_Graph_Len b_).bind fun y34 =>
      (bif (y33 != y34) then
        some false
      else
        (graph_Graph_Heads a_).bind fun y35 =>
        (graph_Graph_Heads b_).bind fun y36 =>
        (ref07_Same y35 y36).bind fun y37 =>
        (bif (!y37) then
          some false
        else
          (graph_Graph_Sorted a_ ids_).bind fun y38 =>
          (graph_Graph_Sorted b_ ids_).bind fun y39 =>
          (ref07_Same y38 y39).bind fun y40 =>
          (bif (!y40) then
            some false
          else
            (seqF (A := Unit) (
              loopF (law07_alike_L1 ids_ a_ b_) (0 : Int))
            fun s2 =>
              some true))))))
theorem law07_alike_fn {a_ : graph_Graph} {b_ : graph_Graph} {ids_ : (List Int)} {r : Bool} (h : law07_alike a_ b_ ids_ = some r) : Fn False Try.prog 15 [.fp [.mz (.i .i64) (mapE (Value.int .i64) (fun x => D.ag (graph_entry.enc x)) a_.nodes)], .fp [.mz (.i .i64) (mapE (Value.int .i64) (fun x => D.ag (graph_entry.enc x)) b_.nodes)], VF (List.map (encI .i64) ids_)] (VB r) := by
  refine Fn.of_AW (dr := False) (F := FnX False Try.prog) (base := 0) (js := [8]) mixed tok noeqs (fun _ _ _ h => h) Try.call15 Try.func15 rfl Try.ntmps15 (by rw [Try.results15]) (by simp) ?_; have hG : (fun x => x = r) r := rfl; unfold law07_alike at h; refine Zap 8 rfl ?_; refine Zo (.fp [.mz (.i .i64) (mapE (Value.int .i64) (fun x => D.ag (graph_entry.enc x)) a_.nodes)]) rfl rfl ?_; refine Zo (.fp [.mz (.i .i64) (mapE (Value.int .i64) (fun x => D.ag (graph_entry.enc x)) b_.nodes)]) rfl rfl ?_; refine Y1 rfl ?_; refine bindK h fun y31 hy31 h => ?_; refine W.call rfl (Fn.toO (graph_Graph_Same_fn hy31) trivial rfl) ?_; refine Zwp 3 rfl ?_; refine YF rfl rfl rfl h (fun _ h => ?_) (fun _ h => ?_)
  · refine Zpb 39 rfl ?_; cases h; cases hG; exact ⟨rfl, trivial⟩
  · refine W.det (.fp [.mz (.i .i64) (mapE (Value.int .i64) (fun x => D.ag (graph_entry.enc x)) b_.nodes)]) _ rfl ?_; refine Zu (.fp [.mz (.i .i64) (mapE (Value.int .i64) (fun x => D.ag (graph_entry.enc x)) a_.nodes)]) rfl rfl rfl rfl ?_; refine Y2 rfl rfl rfl ?_; refine bindK h fun y32 hy32 h => ?_; refine W.call rfl (Fn.toO (graph_Graph_Same_fn hy32) trivial rfl) ?_; refine Zwp 4 rfl ?_; refine YF rfl rfl rfl h (fun _ h => ?_) (fun _ h => ?_)
    · refine Zpb 33 rfl ?_; cases h; cases hG; exact ⟨rfl, trivial⟩
    · refine W.det (.fp [.mz (.i .i64) (mapE (Value.int .i64) (fun x => D.ag (graph_entry.enc x)) a_.nodes)]) _ rfl ?_; refine Y2 rfl rfl rfl ?_; refine bindK h fun y33 hy33 h => ?_; refine W.call rfl (Fn.toO (graph_Graph_Len_fn hy33) trivial rfl) ?_; refine Zwp 1 rfl ?_; refine Zu (.fp [.mz (.i .i64) (mapE (Value.int .i64) (fun x => D.ag (graph_entry.enc x)) b_.nodes)]) rfl rfl rfl rfl ?_; refine Y2 rfl rfl rfl ?_; refine bindK h fun y34 hy34 h => ?_; refine W.call rfl (Fn.toO (graph_Graph_Len_fn hy34) trivial rfl) ?_; refine Zwp 4 rfl ?_; refine YF rfl rfl rfl h (fun _ h => ?_) (fun _ h => ?_)
      · refine Zpb 26 rfl ?_; cases h; cases hG; exact ⟨rfl, trivial⟩
      · refine W.det (.fp [.mz (.i .i64) (mapE (Value.int .i64) (fun x => D.ag (graph_entry.enc x)) a_.nodes)]) _ rfl ?_; refine Y2 rfl rfl rfl ?_; refine bindK h fun y35 hy35 h => ?_; refine W.call rfl (Fn.toO (graph_Graph_Heads_fn hy35) (PlainR.ints _) rfl) ?_; refine W.v (.row 27 1 (List.map (encI .i64) y35).length) (.row 27 1 y35.length) (Mem.add _ 27 (.rows 1 (List.map (encI .i64) y35) false)) rfl (by simp only [List.length_map]) ?_; refine Zu (.fp [.mz (.i .i64) (mapE (Value.int .i64) (fun x => D.ag (graph_entry.enc x)) b_.nodes)]) rfl rfl rfl rfl ?_; refine Y2 rfl rfl rfl ?_; refine bindK h fun y36 hy36 h => ?_; refine W.call rfl (Fn.toO (graph_Graph_Heads_fn hy36) (PlainR.ints _) rfl) ?_; refine W.v (.row 29 1 (List.map (encI .i64) y36).length) (.row 29 1 y36.length) (Mem.add _ 29 (.rows 1 (List.map (encI .i64) y36) false)) rfl (by simp only [List.length_map]) ?_; refine Y2 rfl rfl rfl ?_; refine bindK h fun y37 hy37 h => ?_; refine W.call rfl (ref07_Same_fn hy37) ?_; refine Zwp 4 rfl ?_; refine YF rfl rfl rfl h (fun _ h => ?_) (fun _ h => ?_)
        · refine Zpb 18 rfl ?_; cases h; cases hG; exact ⟨rfl, trivial⟩
        · refine W.det (.fp [.mz (.i .i64) (mapE (Value.int .i64) (fun x => D.ag (graph_entry.enc x)) a_.nodes)]) _ rfl ?_; refine Zpp 1 rfl ?_; refine Y2 rfl rfl rfl ?_; refine bindK h fun y38 hy38 h => ?_; refine W.call rfl (Fn.toO (graph_Graph_Sorted_fn hy38) (PlainR.ints _) rfl) ?_; refine W.v (.row 36 1 (List.map (encI .i64) y38).length) (.row 36 1 y38.length) (Mem.add _ 36 (.rows 1 (List.map (encI .i64) y38) false)) rfl (by simp only [List.length_map]) ?_; refine Zu (.fp [.mz (.i .i64) (mapE (Value.int .i64) (fun x => D.ag (graph_entry.enc x)) b_.nodes)]) rfl rfl rfl rfl ?_; refine Zpp 1 rfl ?_; refine Y2 rfl rfl rfl ?_; refine bindK h fun y39 hy39 h => ?_; refine W.call rfl (Fn.toO (graph_Graph_Sorted_fn hy39) (PlainR.ints _) rfl) ?_; refine W.v (.row 39 1 (List.map (encI .i64) y39).length) (.row 39 1 y39.length) (Mem.add _ 39 (.rows 1 (List.map (encI .i64) y39) false)) rfl (by simp only [List.length_map]) ?_; refine Y2 rfl rfl rfl ?_; refine bindK h fun y40 hy40 h => ?_; refine W.call rfl (ref07_Same_fn hy40) ?_; refine Zwc 5 rfl ?_; refine A.condB rfl h (fun _ h => ?_) (fun _ h => ?_)
          · refine Zcb 7 rfl ?_; cases h; cases hG; exact ⟨rfl, trivial⟩
          · refine Zcc 2 rfl ?_; refine A.join (fun (s2 : Unit) => []) (fun s2 => []) _ h hG rfl ?_ ?_
            · intro J f h hG; refine Zac 6 rfl ?_; refine A.loop (fun (s3 : Int) => [(0, .fp [.mz (.i .i64) (mapE (Value.int .i64) (fun x => D.ag (graph_entry.enc x)) a_.nodes)]), (1, .fp [.mz (.i .i64) (mapE (Value.int .i64) (fun x => D.ag (graph_entry.enc x)) b_.nodes)]), (2, VF (List.map (encI .i64) ids_)), (7, VI s3)]) (fun s3 => []) _ h hG (Zf [] [] rfl rfl (Ze rfl rfl (Ze rfl rfl (Ze rfl rfl (Ze rfl rfl trivial)))) trivial) ?_; intro J s3 f h hG; unfold law07_alike_L1 at h; refine Zap 5 rfl ?_; refine Y1 rfl ?_; refine W.len rfl ?_; refine Zpc 3 rfl ?_; refine A.condB rfl h (fun _ h => ?_) (fun _ h => ?_)
              · refine Zcc 5 rfl ?_; refine A.regionD (by kernel_rfl) ?_; refine Zo (.fp [.mz (.i .i64) (mapE (Value.int .i64) (fun x => D.ag (graph_entry.enc x)) a_.nodes)]) rfl rfl ?_; refine Zpp 2 rfl ?_; refine Y1 rfl ?_; refine bindK h fun x248 hx248 h => ?_; refine W.chk rfl (elemB hx248) ?_; refine W.elem rfl (elemG hx248) ?_; refine W.chk rfl rfl ?_; refine W.det (.fp [.v (.int .i64 x248)]) _ rfl ?_; refine Zpp 1 rfl ?_; refine Y1 rfl ?_; refine bindK h fun y249 hy249 h => ?_; refine W.call rfl (Fn.toO (graph_Graph_Level_fn hy249) trivial rfl) ?_; refine Zwp 1 rfl ?_; refine Zo (.fp [.mz (.i .i64) (mapE (Value.int .i64) (fun x => D.ag (graph_entry.enc x)) b_.nodes)]) rfl rfl ?_; refine Zpp 2 rfl ?_; refine Y1 rfl ?_; refine W.chk rfl (elemB hx248) ?_; refine W.elem rfl (elemG hx248) ?_; refine W.chk rfl rfl ?_; refine W.det (.fp [.v (.int .i64 x248)]) _ rfl ?_; refine Zpp 1 rfl ?_; refine Y1 rfl ?_; refine bindK h fun y250 hy250 h => ?_; refine W.call rfl (Fn.toO (graph_Graph_Level_fn hy250) trivial rfl) ?_; refine Zwp 3 rfl ?_; refine YF rfl rfl rfl h (fun _ h => ?_) (fun _ h => ?_)
                · refine Zpb 41 rfl ?_; refine headK.r ?_; refine Zob 1 rfl ?_; refine headK.r ?_; cases h; cases hG; exact ⟨rfl, trivial⟩
                · refine W.det (.fp [.mz (.i .i64) (mapE (Value.int .i64) (fun x => D.ag (graph_entry.enc x)) a_.nodes)]) _ rfl ?_; refine Zpp 2 rfl ?_; refine Y2 rfl rfl rfl ?_; refine W.chk rfl (elemB hx248) ?_; refine W.elem rfl (elemG hx248) ?_; refine W.chk rfl rfl ?_; refine W.det (.fp [.v (.int .i64 x248)]) _ rfl ?_; refine Zpp 1 rfl ?_; refine Y2 rfl rfl rfl ?_; refine bindK h fun y251 hy251 h => ?_; refine W.call rfl (Fn.toO (graph_Graph_Past_fn hy251) (PlainR.ints _) rfl) ?_; refine W.v (.row 68 2 (List.map (encI .i64) y251).length) (.row 68 2 y251.length) (Mem.add _ 68 (.rows 1 (List.map (encI .i64) y251) false)) rfl (by simp only [List.length_map]) ?_; refine Zu (.fp [.mz (.i .i64) (mapE (Value.int .i64) (fun x => D.ag (graph_entry.enc x)) b_.nodes)]) rfl rfl rfl rfl ?_; refine Zpp 2 rfl ?_; refine Y2 rfl rfl rfl ?_; refine W.chk rfl (elemB hx248) ?_; refine W.elem rfl (elemG hx248) ?_; refine W.chk rfl rfl ?_; refine W.det (.fp [.v (.int .i64 x248)]) _ rfl ?_; refine Zpp 1 rfl ?_; refine Y2 rfl rfl rfl ?_; refine bindK h fun y252 hy252 h => ?_; refine W.call rfl (Fn.toO (graph_Graph_Past_fn hy252) (PlainR.ints _) rfl) ?_; refine W.v (.row 74 2 (List.map (encI .i64) y252).length) (.row 74 2 y252.length) (Mem.add _ 74 (.rows 1 (List.map (encI .i64) y252) false)) rfl (by simp only [List.length_map]) ?_; refine Y2 rfl rfl rfl ?_; refine bindK h fun y253 hy253 h => ?_; refine W.call rfl (ref07_Same_fn hy253) ?_; refine Zwp 4 rfl ?_; refine YF rfl rfl rfl h (fun _ h => ?_) (fun _ h => ?_)
                  · refine Zpb 25 rfl ?_; refine headK.r ?_; refine Zob 1 rfl ?_; refine headK.r ?_; cases h; cases hG; exact ⟨rfl, trivial⟩
                  · refine W.det (.fp [.mz (.i .i64) (mapE (Value.int .i64) (fun x => D.ag (graph_entry.enc x)) a_.nodes)]) _ rfl ?_; refine Zpp 2 rfl ?_; refine Y2 rfl rfl rfl ?_; refine W.chk rfl (elemB hx248) ?_; refine W.elem rfl (elemG hx248) ?_; refine W.chk rfl rfl ?_; refine W.det (.fp [.v (.int .i64 x248)]) _ rfl ?_; refine Zpp 1 rfl ?_; refine Y2 rfl rfl rfl ?_; refine bindK h fun y254 hy254 h => ?_; refine W.call rfl (Fn.toO (graph_Graph_Parents_fn hy254) (PlainR.ints _) rfl) ?_; refine W.v (.row 84 2 (List.map (encI .i64) y254).length) (.row 84 2 y254.length) (Mem.add _ 84 (.rows 1 (List.map (encI .i64) y254) false)) rfl (by simp only [List.length_map]) ?_; refine Zu (.fp [.mz (.i .i64) (mapE (Value.int .i64) (fun x => D.ag (graph_entry.enc x)) b_.nodes)]) rfl rfl rfl rfl ?_; refine Zpp 2 rfl ?_; refine Y2 rfl rfl rfl ?_; refine W.chk rfl (elemB hx248) ?_; refine W.elem rfl (elemG hx248) ?_; refine W.chk rfl rfl ?_; refine W.det (.fp [.v (.int .i64 x248)]) _ rfl ?_; refine Zpp 1 rfl ?_; refine Y2 rfl rfl rfl ?_; refine bindK h fun y255 hy255 h => ?_; refine W.call rfl (Fn.toO (graph_Graph_Parents_fn hy255) (PlainR.ints _) rfl) ?_; refine W.v (.row 90 2 (List.map (encI .i64) y255).length) (.row 90 2 y255.length) (Mem.add _ 90 (.rows 1 (List.map (encI .i64) y255) false)) rfl (by simp only [List.length_map]) ?_; refine Y2 rfl rfl rfl ?_; refine bindK h fun y256 hy256 h => ?_; refine W.call rfl (ref07_Same_fn hy256) ?_; refine Zwc 5 rfl ?_; refine A.condB rfl h (fun _ h => ?_) (fun _ h => ?_)
                    · refine Zcb 8 rfl ?_; refine headK.r ?_; refine Zob 1 rfl ?_; refine headK.r ?_; cases h; cases hG; exact ⟨rfl, trivial⟩
                    · refine Zcb 8 rfl ?_; cases h; exact Zh hG [] [] rfl rfl (Ze rfl rfl (Ze rfl rfl (Ze rfl rfl (Ze rfl rfl trivial)))) trivial
              · refine Zcb 2 rfl ?_; refine headK.e ?_; refine Zob 1 rfl ?_; cases h; exact Zh hG [] [] rfl rfl trivial trivial
            · intro s2 r2 h hG; refine Zcb 6 rfl ?_; cases h; cases hG; exact ⟨rfl, trivial⟩
noncomputable def ref07_Right_L1 (n_ : api_Node) (s3 : Int × Int) : Option ((Int × Int) ⊕ ((Unit) ⊕ (Bool))) :=
  (bif (decide (s3.2 < (n_.Parents.length : Int))) then
    (getI n_.Parents s3.2).bind fun x48 =>
    (bif (decide (x48 ≤ s3.1)) then
      some (.inr (.inr false))
    else
      (bif (decide (n_.Id ≤ x48)) then
        some (.inr (.inr false))
      else
        some (.inl (x48, (IntKind.i64.wrap (s3.2 + (1 : Int)))))))
  else
    some (.inr (.inl ())))
noncomputable def ref07_Right (n_ : api_Node) : Option (Bool) :=
  (seqF (A := Unit) (
    loopF (ref07_Right_L1 n_) ((-1 : Int), (0 : Int)))
  fun s2 =>
    (bif (decide ((0 : Int) ≤ n_.Id)) then
      some (decide (n_.Id < (100000 : Int)))
    else
      some false))
theorem ref07_Right_fn {dr : Prop} {n_ : api_Node} {r : Bool} (h : ref07_Right n_ = some r) : Fn dr Try.prog 18 [.agg (api_Node.av n_)] (VB r) := by
  refine Fn.of_AW (dr := dr) (F := FnX dr Try.prog) (base := 0) (js := [8]) mixed tok noeqs (fun _ _ _ h => h) Try.call18 Try.func18 rfl Try.ntmps18 (by rw [Try.results18]) (by simp) ?_; have hG : (fun x => x = r) r := rfl; unfold ref07_Right at h; refine Zap 2 rfl ?_; refine Zm (.lp 1 1 0) (Mem.add _ 1 (.box (api_Node.av n_))) rfl rfl ?_; refine Zpc 8 rfl ?_; refine A.join (fun (s2 : Unit) => [(1, .lp 900000 1 0)]) (fun s2 => [(900000, .box (api_Node.av n_))]) _ h hG rfl ?_ ?_
  · intro J f h hG; refine Zac 6 rfl ?_; refine A.loop (fun (s3 : Int × Int) => [(1, .lp 900000 1 0), (3, VI s3.1), (4, VI s3.2)]) (fun s3 => [(900000, .box (api_Node.av n_))]) _ h hG (Zf [] [(900000, (1, 1))] rfl rfl (Ze rfl rfl (Ze rfl rfl (Ze rfl rfl trivial))) (Zc rfl rfl trivial)) ?_; intro J s3 f h hG; unfold ref07_Right_L1 at h; refine Zap 6 rfl ?_; refine Y1 rfl ?_; refine W.len rfl ?_; refine Zpc 3 rfl ?_; refine A.condB rfl h (fun _ h => ?_) (fun _ h => ?_)
    · refine Zcc 6 rfl ?_; refine A.regionD (by kernel_rfl) ?_; refine Zpp 3 rfl ?_; refine Y1 rfl ?_; refine bindK h fun x48 hx48 h => ?_; refine W.chk rfl (elemB hx48) ?_; refine W.elem rfl (elemG hx48) ?_; refine W.chk rfl rfl ?_; refine W.det (.fp [.v (.int .i64 x48)]) _ rfl ?_; refine Zpp 4 rfl ?_; refine YF rfl rfl rfl h (fun _ h => ?_) (fun _ h => ?_)
      · refine Zpb 20 rfl ?_; refine headK.r ?_; refine Zob 1 rfl ?_; refine headK.r ?_; cases h; cases hG; exact ⟨rfl, trivial⟩
      · refine Zwp 3 rfl ?_; refine Y2 rfl rfl rfl ?_; refine W.chk rfl (elemB hx48) ?_; refine W.elem rfl (elemG hx48) ?_; refine W.chk rfl rfl ?_; refine W.det (.fp [.v (.int .i64 x48)]) _ rfl ?_; refine Zpc 7 rfl ?_; refine A.condB rfl h (fun _ h => ?_) (fun _ h => ?_)
        · refine Zcb 9 rfl ?_; refine headK.r ?_; refine Zob 1 rfl ?_; refine headK.r ?_; cases h; cases hG; exact ⟨rfl, trivial⟩
        · refine Zcp 6 rfl ?_; refine Y1 rfl ?_; refine W.chk rfl (elemB hx48) ?_; refine W.elem rfl (elemG hx48) ?_; refine W.chk rfl rfl ?_; refine W.det (.fp [.v (.int .i64 x48)]) _ rfl ?_; refine Zpb 10 rfl ?_; cases h; exact Zh hG [] [(900000, (900000, 1))] rfl rfl (Ze rfl rfl (Ze rfl rfl (Ze rfl rfl trivial))) (Zc rfl rfl trivial)
    · refine Zcb 2 rfl ?_; refine headK.e ?_; refine Zob 1 rfl ?_; cases h; exact Zh hG [] [(900000, (900000, 1))] rfl rfl (Ze rfl rfl trivial) (Zc rfl rfl trivial)
  · intro s2 r2 h hG; refine Zcp 6 rfl ?_; refine YT rfl rfl rfl h (fun _ h => ?_) (fun _ h => ?_)
    · refine Zwb 8 rfl ?_; cases h; cases hG; exact ⟨rfl, trivial⟩
    · refine Zpb 7 rfl ?_; cases h; cases hG; exact ⟨rfl, trivial⟩
noncomputable def cmp_isNaN_int (x_ : Int) : Option (Bool) :=
  some (x_ != x_)
theorem cmp_isNaN_int_fn {dr : Prop} {x_ : Int} {r : Bool} (h : cmp_isNaN_int x_ = some r) : Fn dr Try.prog 83 [VI x_] (VB r) := by
  refine Fn.of_AW (dr := dr) (F := FnX dr Try.prog) (base := 0) (js := []) mixed tok noeqs (fun _ _ _ h => h) Try.call83 Try.func83 rfl Try.ntmps83 (by rw [Try.results83]) (by simp) ?_; have hG : (fun x => x = r) r := rfl; unfold cmp_isNaN_int at h; refine Zab 14 rfl ?_; cases h; cases hG; exact ⟨rfl, trivial⟩
noncomputable def cmp_Less_int (x_ : Int) (y_ : Int) : Option (Bool) :=
  (cmp_isNaN_int x_).bind fun y1 =>
  (bif y1 then
    (cmp_isNaN_int y_).bind fun y2 =>
    (bif (!y2) then
      some true
    else
      some (decide (x_ < y_)))
  else
    some (decide (x_ < y_)))
theorem cmp_Less_int_fn {dr : Prop} {x_ : Int} {y_ : Int} {r : Bool} (h : cmp_Less_int x_ y_ = some r) : Fn dr Try.prog 68 [VI x_, VI y_] (VB r) := by
  refine Fn.of_AW (dr := dr) (F := FnX dr Try.prog) (base := 0) (js := []) mixed tok noeqs (fun _ _ _ h => h) Try.call68 Try.func68 rfl Try.ntmps68 (by rw [Try.results68]) (by simp) ?_; have hG : (fun x => x = r) r := rfl; unfold cmp_Less_int at h; refine Zap 8 rfl ?_; refine Y1 rfl ?_; refine bindK h fun y1 hy1 h => ?_; refine W.call rfl (cmp_isNaN_int_fn hy1) ?_; refine Zwp 2 rfl ?_; refine YT rfl rfl rfl h (fun _ h => ?_) (fun _ h => ?_)
  · refine Zwp 1 rfl ?_; refine Y2 rfl rfl rfl ?_; refine bindK h fun y2 hy2 h => ?_; refine W.call rfl (cmp_isNaN_int_fn hy2) ?_; refine Zwp 4 rfl ?_; refine YF rfl rfl rfl h (fun _ h => ?_) (fun _ h => ?_)
    · refine Zpb 7 rfl ?_; cases h; cases hG; exact ⟨rfl, trivial⟩
    · refine Zwb 8 rfl ?_; cases h; cases hG; exact ⟨rfl, trivial⟩
  · refine Zpb 12 rfl ?_; cases h; cases hG; exact ⟨rfl, trivial⟩
noncomputable def slices_isNaN_int (x_ : Int) : Option (Bool) :=
  some (x_ != x_)
theorem slices_isNaN_int_fn {dr : Prop} {x_ : Int} {r : Bool} (h : slices_isNaN_int x_ = some r) : Fn dr Try.prog 69 [VI x_] (VB r) := by
  refine Fn.of_AW (dr := dr) (F := FnX dr Try.prog) (base := 0) (js := []) mixed tok noeqs (fun _ _ _ h => h) Try.call69 Try.func69 rfl Try.ntmps69 (by rw [Try.results69]) (by simp) ?_; have hG : (fun x => x = r) r := rfl; unfold slices_isNaN_int at h; refine Zab 14 rfl ?_; cases h; cases hG; exact ⟨rfl, trivial⟩
noncomputable def slices_BinarySearch_int_int_L1 (x_ : (List Int)) (target_ : Int) (s3 : Int × Int) : Option ((Int × Int) ⊕ ((Int) ⊕ (Int × Bool))) :=
  (bif (decide (s3.1 < s3.2)) then
    (getI x_ (IntKind.i64.wrap (Int.fdiv (IntKind.u64.wrap (IntKind.i64.wrap (s3.1 + s3.2))) (2 ^ (min (1 : Int).toNat (IntKind.bits .u64)))))).bind fun x11 =>
    (cmp_Less_int x11 target_).bind fun y12 =>
    (bif y12 then
      some (.inl ((IntKind.i64.wrap ((IntKind.i64.wrap (Int.fdiv (IntKind.u64.wrap (IntKind.i64.wrap (s3.1 + s3.2))) (2 ^ (min (1 : Int).toNat (IntKind.bits .u64))))) + (1 : Int))), s3.2))
    else
      some (.inl (s3.1, (IntKind.i64.wrap (Int.fdiv (IntKind.u64.wrap (IntKind.i64.wrap (s3.1 + s3.2))) (2 ^ (min (1 : Int).toNat (IntKind.bits .u64))))))))
  else
    some (.inr (.inl s3.1)))
noncomputable def slices_BinarySearch_int_int (x_ : (List Int)) (target_ : Int) : Option (Int × Bool) :=
  (seqF (A := Int) (
    loopF (slices_BinarySearch_int_int_L1 x_ target_) ((0 : Int), (x_.length : Int)))
  fun s2 =>
    (bif (decide (s2 < (x_.length : Int))) then
      (getI x_ s2).bind fun x13 =>
      (bif (x13 == target_) then
        some (s2, true)
      else
        (slices_isNaN_int x13).bind fun y14 =>
        (bif y14 then
          (slices_isNaN_int target_).bind fun y15 =>
          some (s2, y15)
        else
          some (s2, false)))
    else
      some (s2, false)))
theorem slices_BinarySearch_int_int_fn {dr : Prop} {x_ : (List Int)} {target_ : Int} {r : Int × Bool} (h : slices_BinarySearch_int_int x_ target_ = some r) : Fn dr Try.prog 58 [VF (List.map (encI .i64) x_), VI target_] (.tup [VI r.1, VB r.2]) := by
  refine Fn.of_AW (dr := dr) (F := FnX dr Try.prog) (base := 0) (js := [8]) mixed tok noeqs (fun _ _ _ h => h) Try.call58 Try.func58 rfl Try.ntmps58 (by rw [Try.results58]) (by simp) ?_; have hG : (fun x => x = r) r := rfl; unfold slices_BinarySearch_int_int at h; refine Zap 9 rfl ?_; refine Y1 rfl ?_; refine W.len rfl ?_; refine Zpc 10 rfl ?_; refine A.join (fun (s2 : Int) => [(0, VF (List.map (encI .i64) x_)), (1, VI target_), (6, VI (x_.length : Int)), (7, VI s2)]) (fun s2 => []) _ h hG rfl ?_ ?_
  · intro J f h hG; refine Zac 1 rfl ?_; refine A.loop (fun (s3 : Int × Int) => [(0, VF (List.map (encI .i64) x_)), (1, VI target_), (6, VI (x_.length : Int)), (7, VI s3.1), (8, VI s3.2)]) (fun s3 => []) _ h hG (Zf [] [] rfl rfl (Ze rfl rfl (Ze rfl rfl (Ze rfl rfl (Ze rfl rfl (Ze rfl rfl trivial))))) trivial) ?_; intro J s3 f h hG; unfold slices_BinarySearch_int_int_L1 at h; refine Zac 8 rfl ?_; refine A.condB rfl h (fun _ h => ?_) (fun _ h => ?_)
    · refine Zcp 9 rfl ?_; refine Y1 rfl ?_; refine W.chk rfl (by decide) ?_; refine Zwp 9 rfl ?_; refine Y1 rfl ?_; refine bindK h fun x11 hx11 h => ?_; refine W.chk rfl (elemB hx11) ?_; refine W.elem rfl (elemG hx11) ?_; refine W.chk rfl rfl ?_; refine W.det (.fp [.v (.int .i64 x11)]) _ rfl ?_; refine Zpp 2 rfl ?_; refine Y1 rfl ?_; refine bindK h fun y12 hy12 h => ?_; refine W.call rfl (cmp_Less_int_fn hy12) ?_; refine Zwc 3 rfl ?_; refine A.condB rfl h (fun _ h => ?_) (fun _ h => ?_)
      · refine Zcb 6 rfl ?_; cases h; exact Zh hG [] [] rfl rfl (Ze rfl rfl (Ze rfl rfl (Ze rfl rfl (Ze rfl rfl (Ze rfl rfl trivial))))) trivial
      · refine Zcb 5 rfl ?_; cases h; exact Zh hG [] [] rfl rfl (Ze rfl rfl (Ze rfl rfl (Ze rfl rfl (Ze rfl rfl (Ze rfl rfl trivial))))) trivial
    · refine Zcb 2 rfl ?_; refine headK.e ?_; refine Zob 1 rfl ?_; cases h; exact Zh hG [] [] rfl rfl (Ze rfl rfl (Ze rfl rfl (Ze rfl rfl (Ze rfl rfl trivial)))) trivial
  · intro s2 r2 h hG; refine Zcp 7 rfl ?_; refine YT rfl rfl rfl h (fun _ h => ?_) (fun _ h => ?_)
    · refine Zwp 2 rfl ?_; refine Y2 rfl rfl rfl ?_; refine bindK h fun x13 hx13 h => ?_; refine W.chk rfl (elemB hx13) ?_; refine W.elem rfl (elemG hx13) ?_; refine W.chk rfl rfl ?_; refine W.det (.fp [.v (.int .i64 x13)]) _ rfl ?_; refine Zpp 4 rfl ?_; refine YF rfl rfl rfl h (fun _ h => ?_) (fun _ h => ?_)
      · refine Zpb 15 rfl ?_; cases h; cases hG; exact ⟨rfl, rfl, trivial⟩
      · refine Zwp 2 rfl ?_; refine Y2 rfl rfl rfl ?_; refine W.chk rfl (elemB hx13) ?_; refine W.elem rfl (elemG hx13) ?_; refine W.chk rfl rfl ?_; refine W.det (.fp [.v (.int .i64 x13)]) _ rfl ?_; refine Zpp 1 rfl ?_; refine Y2 rfl rfl rfl ?_; refine bindK h fun y14 hy14 h => ?_; refine W.call rfl (slices_isNaN_int_fn hy14) ?_; refine Zwp 2 rfl ?_; refine YT rfl rfl rfl h (fun _ h => ?_) (fun _ h => ?_)
        · refine Zwp 1 rfl ?_; refine Y2 rfl rfl rfl ?_; refine bindK h fun y15 hy15 h => ?_; refine W.call rfl (slices_isNaN_int_fn hy15) ?_; refine Zwb 9 rfl ?_; cases h; cases hG; exact ⟨rfl, rfl, trivial⟩
        · refine Zpb 9 rfl ?_; cases h; cases hG; exact ⟨rfl, rfl, trivial⟩
    · refine Zpb 22 rfl ?_; cases h; cases hG; exact ⟨rfl, rfl, trivial⟩
noncomputable def graph_Graph_Before (g_ : graph_Graph) (a_ : Int) (b_ : Int) : Option (Bool) :=
  (graph_Graph_Past g_ b_).bind fun y1 =>
  (slices_BinarySearch_int_int y1 a_).bind fun y2 =>
  some y2.2
theorem graph_Graph_Before_fn {g_ : graph_Graph} {a_ : Int} {b_ : Int} {r : Bool} (h : graph_Graph_Before g_ a_ b_ = some r) : Fn False Try.prog 26 [.fp [.mz (.i .i64) (mapE (Value.int .i64) (fun x => D.ag (graph_entry.enc x)) g_.nodes)], VI a_, VI b_] (VB r) := by
  refine Fn.of_AW (dr := False) (F := FnX False Try.prog) (base := 0) (js := []) mixed tok noeqs (fun _ _ _ h => h) Try.call26 Try.func26 rfl Try.ntmps26 (by rw [Try.results26]) (by simp) ?_; have hG : (fun x => x = r) r := rfl; unfold graph_Graph_Before at h; refine Zap 7 rfl ?_; refine Zo (.fp [.mz (.i .i64) (mapE (Value.int .i64) (fun x => D.ag (graph_entry.enc x)) g_.nodes)]) rfl rfl ?_; refine Zpp 1 rfl ?_; refine Y1 rfl ?_; refine bindK h fun y1 hy1 h => ?_; refine W.call rfl (Fn.toO (graph_Graph_Past_fn hy1) (PlainR.ints _) rfl) ?_; refine W.v (.row 12 1 (List.map (encI .i64) y1).length) (.row 12 1 y1.length) (Mem.add _ 12 (.rows 1 (List.map (encI .i64) y1) false)) rfl (by simp only [List.length_map]) ?_; refine Zpp 1 rfl ?_; refine Y1 rfl ?_; refine bindK h fun y2 hy2 h => ?_; refine W.call rfl (slices_BinarySearch_int_int_fn hy2) ?_; refine W.det (.tup [VI y2.1, VB y2.2]) _ rfl ?_; refine Zo (.tup [VI y2.1, VB y2.2]) rfl rfl ?_; refine Zpb 13 rfl ?_; cases h; cases hG; exact ⟨rfl, trivial⟩
structure linguaref07_Graph where
  L : (List api_Node)
def linguaref07_Graph.enc (x : linguaref07_Graph) : List D := [.fz (List.map api_Node.enc x.L)]
noncomputable def ref07_Graph_At_L1 (g_ : linguaref07_Graph) (id_ : Int) (s3 : Int) : Option ((Int) ⊕ ((Unit) ⊕ (Int))) :=
  (bif (decide (s3 < (g_.L.length : Int))) then
    (getI g_.L s3).bind fun x12 =>
    (bif (x12.Id == id_) then
      some (.inr (.inr s3))
    else
      some (.inl (IntKind.i64.wrap (s3 + (1 : Int)))))
  else
    some (.inr (.inl ())))
noncomputable def ref07_Graph_At (g_ : linguaref07_Graph) (id_ : Int) : Option (Int) :=
  (seqF (A := Unit) (
    loopF (ref07_Graph_At_L1 g_ id_) (0 : Int))
  fun s2 =>
    some (-1 : Int))
theorem ref07_Graph_At_fn {dr : Prop} {g_ : linguaref07_Graph} {id_ : Int} {r : Int} (h : ref07_Graph_At g_ id_ = some r) : Fn dr Try.prog 30 [.fp [.fz (List.map api_Node.enc g_.L)], VI id_] (VI r) := by
  refine Fn.of_AW (dr := dr) (F := FnX dr Try.prog) (base := 0) (js := [6]) mixed tok noeqs (fun _ _ _ h => h) Try.call30 Try.func30 rfl Try.ntmps30 (by rw [Try.results30]) (by simp) ?_; have hG : (fun x => x = r) r := rfl; unfold ref07_Graph_At at h; refine Zac 5 rfl ?_; refine A.join (fun (s2 : Unit) => []) (fun s2 => []) _ h hG rfl ?_ ?_
  · intro J f h hG; refine Zac 6 rfl ?_; refine A.loop (fun (s3 : Int) => [(0, .fp [.fz (List.map api_Node.enc g_.L)]), (1, VI id_), (5, VI s3)]) (fun s3 => []) _ h hG (Zf [] [] rfl rfl (Ze rfl rfl (Ze rfl rfl (Ze rfl rfl trivial))) trivial) ?_; intro J s3 f h hG; unfold ref07_Graph_At_L1 at h; refine Zap 4 rfl ?_; refine Zo (.fp [.fz (List.map api_Node.enc g_.L)]) rfl rfl ?_; refine Zo (.fp [.fz (List.map api_Node.enc g_.L)]) rfl rfl ?_; refine Zo (.fp [.fz (List.map api_Node.enc g_.L)]) rfl rfl ?_; refine Zpp 1 rfl ?_; refine Y1 rfl ?_; refine W.len rfl ?_; refine Zpc 3 rfl ?_; refine A.condB rfl h (fun _ h => ?_) (fun _ h => ?_)
    · refine Zcp 6 rfl ?_; refine Zo (.fp [.fz (List.map api_Node.enc g_.L)]) rfl rfl ?_; refine Zo (.fp [.fz (List.map api_Node.enc g_.L)]) rfl rfl ?_; refine Zo (.fp [.fz (List.map api_Node.enc g_.L)]) rfl rfl ?_; refine Zpp 2 rfl ?_; refine Y1 rfl ?_; refine bindK h fun x12 hx12 h => ?_; refine W.chk rfl (elemB hx12) ?_; refine W.elem rfl (elemG hx12) ?_; refine W.chk rfl rfl ?_; refine W.det (.fp [.v (.int .i64 x12.Id), .fz (List.map (encI .i64) x12.Parents)]) _ rfl ?_; refine Zo (.fp [.v (.int .i64 x12.Id), .fz (List.map (encI .i64) x12.Parents)]) rfl rfl ?_; refine Zpc 5 rfl ?_; refine A.condB rfl h (fun _ h => ?_) (fun _ h => ?_)
      · refine Zcb 9 rfl ?_; refine headK.r ?_; refine Zob 1 rfl ?_; refine headK.r ?_; cases h; cases hG; exact ⟨rfl, trivial⟩
      · refine Zcb 8 rfl ?_; cases h; exact Zh hG [] [] rfl rfl (Ze rfl rfl (Ze rfl rfl (Ze rfl rfl trivial))) trivial
    · refine Zcb 2 rfl ?_; refine headK.e ?_; refine Zob 1 rfl ?_; cases h; exact Zh hG [] [] rfl rfl trivial trivial
  · intro s2 r2 h hG; refine Zcb 6 rfl ?_; cases h; cases hG; exact ⟨rfl, trivial⟩
noncomputable def ref07_Graph_Add_L1 (n_ : api_Node) (g_ : linguaref07_Graph) (s3 : Int) : Option ((Int) ⊕ ((Unit) ⊕ (Int × linguaref07_Graph))) :=
  (bif (decide (s3 < (n_.Parents.length : Int))) then
    (getI n_.Parents s3).bind fun x34 =>
    (ref07_Graph_At g_ x34).bind fun y35 =>
    (bif (decide (y35 < (0 : Int))) then
      some (.inr (.inr ((14 : Int), g_)))
    else
      some (.inl (IntKind.i64.wrap (s3 + (1 : Int)))))
  else
    some (.inr (.inl ())))
noncomputable def ref07_Graph_Add_L2 (g_ : linguaref07_Graph) (n_ : api_Node) (s6 : Bool × Int × (List api_Node)) : Option ((Bool × Int × (List api_Node)) ⊕ ((Bool × (List api_Node)) ⊕ (Int × linguaref07_Graph))) :=
  (bif (decide (s6.2.1 < (g_.L.length : Int))) then
    (bif (!s6.1) then
      (getI g_.L s6.2.1).bind fun x173 =>
      (bif (decide (n_.Id < x173.Id)) then
        (chkO (decide (0 + n_.Parents.length ≤ 1000000))).bind fun _ =>
        (chkO (decide (s6.2.2.length + [(api_Node.mk n_.Id (([] : List Int) ++ n_.Parents))].length ≤ 1000000))).bind fun _ =>
        (chkO (decide ((s6.2.2 ++ [(api_Node.mk n_.Id (([] : List Int) ++ n_.Parents))]).length + [x173].length ≤ 1000000))).bind fun _ =>
        some (.inl (true, (IntKind.i64.wrap (s6.2.1 + (1 : Int))), ((s6.2.2 ++ [(api_Node.mk n_.Id (([] : List Int) ++ n_.Parents))]) ++ [x173])))
      else
        (chkO (decide (s6.2.2.length + [x173].length ≤ 1000000))).bind fun _ =>
        some (.inl (s6.1, (IntKind.i64.wrap (s6.2.1 + (1 : Int))), (s6.2.2 ++ [x173]))))
    else
      (getI g_.L s6.2.1).bind fun x178 =>
      (chkO (decide (s6.2.2.length + [x178].length ≤ 1000000))).bind fun _ =>
      some (.inl (s6.1, (IntKind.i64.wrap (s6.2.1 + (1 : Int))), (s6.2.2 ++ [x178]))))
  else
    some (.inr (.inl (s6.1, s6.2.2))))
noncomputable def ref07_Graph_Add (g_ : linguaref07_Graph) (n_ : api_Node) : Option (Int × linguaref07_Graph) :=
  (ref07_Right n_).bind fun y2 =>
  (bif (!y2) then
    some ((1 : Int), g_)
  else
    (ref07_Graph_At g_ n_.Id).bind fun y3 =>
    (bif (decide ((0 : Int) ≤ y3)) then
      (getI g_.L y3).bind fun x10 =>
      (ref07_Same x10.Parents n_.Parents).bind fun y11 =>
      (bif y11 then
        some ((0 : Int), g_)
      else
        some ((5 : Int), g_))
    else
      (seqF (A := Unit) (
        loopF (ref07_Graph_Add_L1 n_ g_) (0 : Int))
      fun s2 =>
        (seqF (A := Bool × (List api_Node)) (
          loopF (ref07_Graph_Add_L2 g_ n_) (false, (0 : Int), ([] : List api_Node)))
        fun s5 =>
          (bif (!s5.1) then
            (chkO (decide (0 + n_.Parents.length ≤ 1000000))).bind fun _ =>
            (chkO (decide (s5.2.length + [(api_Node.mk n_.Id (([] : List Int) ++ n_.Parents))].length ≤ 1000000))).bind fun _ =>
            some ((0 : Int), (linguaref07_Graph.mk (s5.2 ++ [(api_Node.mk n_.Id (([] : List Int) ++ n_.Parents))])))
          else
            some ((0 : Int), (linguaref07_Graph.mk s5.2)))))))
theorem ref07_Graph_Add_fn {dr : Prop} {g_ : linguaref07_Graph} {n_ : api_Node} {r : Int × linguaref07_Graph} (h : ref07_Graph_Add g_ n_ = some r) : FnO dr Try.prog 29 [.ib [VF (List.map api_Node.enc g_.L)]] [.lp 1000001 1 0, .agg (api_Node.av n_)] (.hp [VI r.1, .ib [VF (List.map api_Node.enc r.2.L)]]) := by
  refine FnO.of_AW (dr := dr) (F := FnX dr Try.prog) (base := 0) (jl := [14, 23]) mixed tok noeqs (fun _ _ _ h => h) Try.call29 Try.func29 rfl Try.ntmps29 (by rw [Try.results29]) (by simp) (by simp) ?_; have hG : (fun x => x = r) r := rfl; unfold ref07_Graph_Add at h; refine Zap 2 rfl ?_; refine Zm (.lp 3 1 0) (Mem.add _ 3 (.box (api_Node.av n_))) rfl rfl ?_; refine Zpp 6 rfl ?_; refine Zo (.agg (api_Node.av n_)) rfl rfl ?_; refine Y1 rfl ?_; refine bindK h fun y2 hy2 h => ?_; refine W.call rfl (ref07_Right_fn hy2) ?_; refine Zwc 4 rfl ?_; refine A.condB rfl h (fun _ h => ?_) (fun _ h => ?_)
  · refine Zcb 7 rfl ?_; cases h; cases hG; exact ⟨[], [], ⟨⟨rfl, trivial⟩, trivial⟩, rfl, rfl, trivial⟩
  · refine Zcp 7 rfl ?_; refine Y1 rfl ?_; refine bindK h fun y3 hy3 h => ?_; refine W.call rfl (Fn.toO (ref07_Graph_At_fn hy3) trivial rfl) ?_; refine Zwc 11 rfl ?_; refine A.condB rfl h (fun _ h => ?_) (fun _ h => ?_)
    · refine Zcc 2 rfl ?_; refine A.regionD (by kernel_rfl) ?_; refine Zpp 1 rfl ?_; refine Zo (.lp 1000001 1 0) rfl rfl ?_; refine Zpp 3 rfl ?_; refine Y1 rfl ?_; refine bindK h fun x10 hx10 h => ?_; refine W.chk rfl (elemB hx10) ?_; refine W.elem rfl (elemG hx10) ?_; refine W.chk rfl rfl ?_; refine W.det (.fp [.v (.int .i64 x10.Id), .fz (List.map (encI .i64) x10.Parents)]) _ rfl ?_; refine Zo (.fp [.fz (List.map (encI .i64) x10.Parents)]) rfl rfl ?_; refine Zpp 3 rfl ?_; refine Y1 rfl ?_; refine bindK h fun y11 hy11 h => ?_; refine W.call rfl (ref07_Same_fn hy11) ?_; refine Zwc 3 rfl ?_; refine A.condB rfl h (fun _ h => ?_) (fun _ h => ?_)
      · refine Zcb 8 rfl ?_; cases h; cases hG; exact ⟨[], [], ⟨⟨rfl, trivial⟩, trivial⟩, rfl, rfl, trivial⟩
      · refine Zcb 9 rfl ?_; cases h; cases hG; exact ⟨[], [], ⟨⟨rfl, trivial⟩, trivial⟩, rfl, rfl, trivial⟩
    · refine Zcc 2 rfl ?_; refine A.join (fun (s2 : Unit) => [(0, .lp 1000001 1 0), (3, .lp 900001 1 0)]) (fun s2 => [(1000001, .box [VF (List.map api_Node.enc g_.L)]), (900001, .box (api_Node.av n_))]) _ h hG rfl ?_ ?_
      · intro J f h hG; refine Zac 6 rfl ?_; refine A.loop (fun (s3 : Int) => [(0, .lp 1000001 1 0), (3, .lp 900001 1 0), (6, VI s3)]) (fun s3 => [(1000001, .box [VF (List.map api_Node.enc g_.L)]), (900001, .box (api_Node.av n_))]) _ h hG (Zf [] [(900001, (3, 1))] rfl rfl (Ze rfl rfl (Ze rfl rfl (Ze rfl rfl trivial))) (Zc rfl rfl (Zc rfl rfl trivial))) ?_; intro J s3 f h hG; unfold ref07_Graph_Add_L1 at h; refine Zap 6 rfl ?_; refine Y1 rfl ?_; refine W.len rfl ?_; refine Zpc 3 rfl ?_; refine A.condB rfl h (fun _ h => ?_) (fun _ h => ?_)
        · refine Zcp 10 rfl ?_; refine Y1 rfl ?_; refine bindK h fun x34 hx34 h => ?_; refine W.chk rfl (elemB hx34) ?_; refine W.elem rfl (elemG hx34) ?_; refine W.chk rfl rfl ?_; refine W.det (.fp [.v (.int .i64 x34)]) _ rfl ?_; refine Zpp 1 rfl ?_; refine Y1 rfl ?_; refine bindK h fun y35 hy35 h => ?_; refine W.call rfl (Fn.toO (ref07_Graph_At_fn hy35) trivial rfl) ?_; refine Zwc 10 rfl ?_; refine A.condB rfl h (fun _ h => ?_) (fun _ h => ?_)
          · refine Zcb 8 rfl ?_; refine headK.r ?_; refine Zob 1 rfl ?_; refine headK.r ?_; cases h; cases hG; exact ⟨[], [], ⟨⟨rfl, trivial⟩, trivial⟩, rfl, rfl, trivial⟩
          · refine Zcb 8 rfl ?_; cases h; exact Zh hG [] [(900001, (900001, 1))] rfl rfl (Ze rfl rfl (Ze rfl rfl (Ze rfl rfl trivial))) (Zc rfl rfl (Zc rfl rfl trivial))
        · refine Zcb 2 rfl ?_; refine headK.e ?_; refine Zob 1 rfl ?_; cases h; exact Zh hG [] [(900001, (900001, 1))] rfl rfl (Ze rfl rfl (Ze rfl rfl trivial)) (Zc rfl rfl (Zc rfl rfl trivial))
      · intro s2 r2 h hG; refine Zcp 2 rfl ?_; refine Zm (.row 8 2 0) (Mem.add _ 8 (.rows 2 (List.map api_Node.enc ([] : List api_Node)) false)) rfl rfl ?_; refine Zpc 7 rfl ?_; refine A.join (fun (s5 : Bool × (List api_Node)) => [(0, .lp 1000001 1 0), (3, .lp 900001 1 0), (8, .row 900002 1 s5.2.length), (9, VB s5.1)]) (fun s5 => [(1000001, .box [VF (List.map api_Node.enc g_.L)]), (900001, .box (api_Node.av n_)), (900002, .rows 2 (List.map api_Node.enc s5.2) false)]) _ h hG rfl ?_ ?_
        · intro J f h hG; refine Zac 6 rfl ?_; refine A.loop (fun (s6 : Bool × Int × (List api_Node)) => [(0, .lp 1000001 1 0), (3, .lp 900001 1 0), (8, .row 900002 1 s6.2.2.length), (9, VB s6.1), (10, VI s6.2.1)]) (fun s6 => [(1000001, .box [VF (List.map api_Node.enc g_.L)]), (900001, .box (api_Node.av n_)), (900002, .rows 2 (List.map api_Node.enc s6.2.2) false)]) _ h hG (Zf [] [(900001, (900001, 1)), (900002, (8, 2))] rfl rfl (Ze rfl rfl (Ze rfl rfl (Ze rfl rfl (Ze rfl rfl (Ze rfl rfl trivial))))) (Zc rfl rfl (Zc rfl rfl (Zc rfl rfl trivial)))) ?_; intro J s6 f h hG; unfold ref07_Graph_Add_L2 at h; refine Zap 5 rfl ?_; refine Zo (.lp 1000001 1 0) rfl rfl ?_; refine Zpp 2 rfl ?_; refine Y1 rfl ?_; refine W.len rfl ?_; refine Zpc 3 rfl ?_; refine A.condB rfl h (fun _ h => ?_) (fun _ h => ?_)
          · refine Zcc 6 rfl ?_; refine A.regionD (by kernel_rfl) ?_; refine Zpp 3 rfl ?_; refine YT rfl rfl rfl h (fun _ h => ?_) (fun _ h => ?_)
            · refine Zwp 1 rfl ?_; refine Zu (.lp 1000001 1 0) rfl rfl rfl rfl ?_; refine Zpp 3 rfl ?_; refine Y2 rfl rfl rfl ?_; refine bindK h fun x173 hx173 h => ?_; refine W.chk rfl (elemB hx173) ?_; refine W.elem rfl (elemG hx173) ?_; refine W.chk rfl rfl ?_; refine W.det (.fp [.v (.int .i64 x173.Id), .fz (List.map (encI .i64) x173.Parents)]) _ rfl ?_; refine Zu (.fp [.v (.int .i64 x173.Id), .fz (List.map (encI .i64) x173.Parents)]) rfl rfl rfl rfl ?_; refine Zpc 7 rfl ?_; refine A.condB rfl h (fun _ h => ?_) (fun _ h => ?_)
              · refine Zcc 1 rfl ?_; refine A.regionC [3, 4, 5, 6, 0, 1, 2, 7, 8, 9, 10] (by kernel_rfl) ?_; refine R.at_ rfl rfl ?_; refine Zm (.row 74 2 0) (Mem.add _ 74 (.rows 1 (List.map (encI .i64) ([] : List Int)) false)) rfl rfl ?_; refine R.nil ?_; refine R.at_ rfl rfl ?_; refine Zo (.lp 900001 1 1) rfl rfl ?_; refine R.nil ?_; refine R.at_ rfl rfl ?_; refine Zo (VF (List.map (encI .i64) n_.Parents)) rfl rfl ?_; refine R.nil ?_; refine R.at_ rfl rfl ?_; refine Y1 rfl ?_; refine chkK h fun g174 h => ?_; refine W.chk rfl (appChk (fun _ => rfl) g174) ?_; refine W.rows (0 + (List.map (encI .i64) n_.Parents).length) (([] : List Int) ++ n_.Parents).length ([] ++ (List.map (encI .i64) n_.Parents)) (List.map (encI .i64) (([] : List Int) ++ n_.Parents)) rfl (by first | rfl | (simp; done) | simp only [partMap, List.length_map, List.length_append, List.nil_append, Nat.zero_add, List.length_nil]) (by first | rfl | (simp; done) | simp only [partMap, List.map_append, List.nil_append, List.map_nil]) ?_; refine R.nil ?_; refine R.at_ rfl rfl ?_; refine Zo (.row 900002 1 s6.2.2.length) rfl rfl ?_; refine R.nil ?_; refine R.at_ rfl rfl ?_; refine Zo (.lp 900001 1 0) rfl rfl ?_; refine R.nil ?_; refine R.at_ rfl rfl ?_; refine Zo (VI n_.Id) rfl rfl ?_; refine R.nil ?_; refine R.at_ rfl rfl ?_; refine Zo (.agg [VI n_.Id, .row 74 3 (([] : List Int) ++ n_.Parents).length]) rfl rfl ?_; refine R.nil ?_; refine R.at_ rfl rfl ?_; refine Zm (.row 79 2 1) (Mem.add (Mem.set _ 74 3 (some (.rows 1 (List.map (encI .i64) (([] : List Int) ++ n_.Parents)) true))) 79 (.rows 2 (List.map api_Node.enc [(api_Node.mk n_.Id (([] : List Int) ++ n_.Parents))]) false)) rfl rfl ?_; refine R.nil ?_; refine R.at_ rfl rfl ?_; refine Y1 rfl ?_; refine chkK h fun g175 h => ?_; refine W.chk rfl (appChk (fun _ => rfl) g175) ?_; refine W.app rfl rfl ?_; refine R.nil ?_; refine R.at_ rfl rfl ?_; refine Zo (.row 900002 2 (s6.2.2 ++ [(api_Node.mk n_.Id (([] : List Int) ++ n_.Parents))]).length) rfl rfl ?_; refine R.nil ?_; refine R.end_ ?_; refine Zop 6 rfl ?_; refine Zo (.row 900002 2 (s6.2.2 ++ [(api_Node.mk n_.Id (([] : List Int) ++ n_.Parents))]).length) rfl rfl ?_; refine Zpp 1 rfl ?_; refine Zo (.lp 1000001 1 0) rfl rfl ?_; refine Zpp 3 rfl ?_; refine Y1 rfl ?_; refine W.chk rfl (elemB hx173) ?_; refine W.elem rfl (elemG hx173) ?_; refine W.chk rfl rfl ?_; refine W.det (.fp [.v (.int .i64 x173.Id), .fz (List.map (encI .i64) x173.Parents)]) _ rfl ?_; refine Zo (.agg (api_Node.av x173)) rfl rfl ?_; refine Zm (.row 89 2 1) (Mem.add _ 89 (.rows 2 (List.map api_Node.enc [x173]) false)) rfl rfl ?_; refine Y1 rfl ?_; refine chkK h fun g176 h => ?_; refine W.chk rfl (appChk (fun _ => rfl) g176) ?_; refine W.app rfl rfl ?_; refine Zo (.row 900002 3 ((s6.2.2 ++ [(api_Node.mk n_.Id (([] : List Int) ++ n_.Parents))]) ++ [x173]).length) rfl rfl ?_; refine Zpb 8 rfl ?_; cases h; exact Zh hG [] [(900001, (900001, 1)), (900002, (900002, 3))] rfl rfl (Ze rfl rfl (Ze rfl rfl (Ze rfl rfl (Ze rfl rfl (Ze rfl rfl trivial))))) (Zc rfl rfl (Zc rfl rfl (Zc rfl rfl trivial)))
              · refine Zcp 3 rfl ?_; refine Zo (.row 900002 1 s6.2.2.length) rfl rfl ?_; refine Zpp 1 rfl ?_; refine Zo (.lp 1000001 1 0) rfl rfl ?_; refine Zpp 3 rfl ?_; refine Y1 rfl ?_; refine W.chk rfl (elemB hx173) ?_; refine W.elem rfl (elemG hx173) ?_; refine W.chk rfl rfl ?_; refine W.det (.fp [.v (.int .i64 x173.Id), .fz (List.map (encI .i64) x173.Parents)]) _ rfl ?_; refine Zo (.agg (api_Node.av x173)) rfl rfl ?_; refine Zm (.row 89 2 1) (Mem.add _ 89 (.rows 2 (List.map api_Node.enc [x173]) false)) rfl rfl ?_; refine Y1 rfl ?_; refine chkK h fun g177 h => ?_; refine W.chk rfl (appChk (fun _ => rfl) g177) ?_; refine W.app rfl rfl ?_; refine Zo (.row 900002 2 (s6.2.2 ++ [x173]).length) rfl rfl ?_; refine Zpb 8 rfl ?_; cases h; exact Zh hG [] [(900001, (900001, 1)), (900002, (900002, 2))] rfl rfl (Ze rfl rfl (Ze rfl rfl (Ze rfl rfl (Ze rfl rfl (Ze rfl rfl trivial))))) (Zc rfl rfl (Zc rfl rfl (Zc rfl rfl trivial)))
            · refine Zpp 17 rfl ?_; refine Zo (.row 900002 1 s6.2.2.length) rfl rfl ?_; refine Zpp 1 rfl ?_; refine Zo (.lp 1000001 1 0) rfl rfl ?_; refine Zpp 3 rfl ?_; refine Y1 rfl ?_; refine bindK h fun x178 hx178 h => ?_; refine W.chk rfl (elemB hx178) ?_; refine W.elem rfl (elemG hx178) ?_; refine W.chk rfl rfl ?_; refine W.det (.fp [.v (.int .i64 x178.Id), .fz (List.map (encI .i64) x178.Parents)]) _ rfl ?_; refine Zo (.agg (api_Node.av x178)) rfl rfl ?_; refine Zm (.row 89 2 1) (Mem.add _ 89 (.rows 2 (List.map api_Node.enc [x178]) false)) rfl rfl ?_; refine Y1 rfl ?_; refine chkK h fun g179 h => ?_; refine W.chk rfl (appChk (fun _ => rfl) g179) ?_; refine W.app rfl rfl ?_; refine Zo (.row 900002 2 (s6.2.2 ++ [x178]).length) rfl rfl ?_; refine Zpb 8 rfl ?_; cases h; exact Zh hG [] [(900001, (900001, 1)), (900002, (900002, 2))] rfl rfl (Ze rfl rfl (Ze rfl rfl (Ze rfl rfl (Ze rfl rfl (Ze rfl rfl trivial))))) (Zc rfl rfl (Zc rfl rfl (Zc rfl rfl trivial)))
          · refine Zcb 2 rfl ?_; refine headK.e ?_; refine Zob 1 rfl ?_; cases h; exact Zh hG [] [(900001, (900001, 1)), (900002, (900002, 1))] rfl rfl (Ze rfl rfl (Ze rfl rfl (Ze rfl rfl (Ze rfl rfl trivial)))) (Zc rfl rfl (Zc rfl rfl (Zc rfl rfl trivial)))
        · intro s5 r2 h hG; refine Zcc 7 rfl ?_; refine A.condB rfl h (fun _ h => ?_) (fun _ h => ?_)
          · refine A.regionC [3, 4, 5, 6, 0, 1, 2, 7, 8, 9, 10] (by kernel_rfl) ?_; refine R.at_ rfl rfl ?_; refine Zm (.row 96 2 0) (Mem.add _ 96 (.rows 1 (List.map (encI .i64) ([] : List Int)) false)) rfl rfl ?_; refine R.nil ?_; refine R.at_ rfl rfl ?_; refine Zo (.lp 900001 1 1) rfl rfl ?_; refine R.nil ?_; refine R.at_ rfl rfl ?_; refine Zo (VF (List.map (encI .i64) n_.Parents)) rfl rfl ?_; refine R.nil ?_; refine R.at_ rfl rfl ?_; refine Y1 rfl ?_; refine chkK h fun g182 h => ?_; refine W.chk rfl (appChk (fun _ => rfl) g182) ?_; refine W.rows (0 + (List.map (encI .i64) n_.Parents).length) (([] : List Int) ++ n_.Parents).length ([] ++ (List.map (encI .i64) n_.Parents)) (List.map (encI .i64) (([] : List Int) ++ n_.Parents)) rfl (by first | rfl | (simp; done) | simp only [partMap, List.length_map, List.length_append, List.nil_append, Nat.zero_add, List.length_nil]) (by first | rfl | (simp; done) | simp only [partMap, List.map_append, List.nil_append, List.map_nil]) ?_; refine R.nil ?_; refine R.at_ rfl rfl ?_; refine Zo (.row 900002 1 s5.2.length) rfl rfl ?_; refine R.nil ?_; refine R.at_ rfl rfl ?_; refine Zo (.lp 900001 1 0) rfl rfl ?_; refine R.nil ?_; refine R.at_ rfl rfl ?_; refine Zo (VI n_.Id) rfl rfl ?_; refine R.nil ?_; refine R.at_ rfl rfl ?_; refine Zo (.agg [VI n_.Id, .row 96 3 (([] : List Int) ++ n_.Parents).length]) rfl rfl ?_; refine R.nil ?_; refine R.at_ rfl rfl ?_; refine Zm (.row 101 2 1) (Mem.add (Mem.set _ 96 3 (some (.rows 1 (List.map (encI .i64) (([] : List Int) ++ n_.Parents)) true))) 101 (.rows 2 (List.map api_Node.enc [(api_Node.mk n_.Id (([] : List Int) ++ n_.Parents))]) false)) rfl rfl ?_; refine R.nil ?_; refine R.at_ rfl rfl ?_; refine Y1 rfl ?_; refine chkK h fun g183 h => ?_; refine W.chk rfl (appChk (fun _ => rfl) g183) ?_; refine W.app rfl rfl ?_; refine R.nil ?_; refine R.at_ rfl rfl ?_; refine Zo (.row 900002 2 (s5.2 ++ [(api_Node.mk n_.Id (([] : List Int) ++ n_.Parents))]).length) rfl rfl ?_; refine R.nil ?_; refine R.end_ ?_; refine Zop 4 rfl ?_; refine Zo (.row 900002 2 (s5.2 ++ [(api_Node.mk n_.Id (([] : List Int) ++ n_.Parents))]).length) rfl rfl ?_; refine Zo (.lp 1000001 1 0) rfl rfl ?_; refine Zpp 1 rfl ?_; refine Zm (.tup []) (Mem.set _ 1000001 1 (some (.box [.row 900002 2 (s5.2 ++ [(api_Node.mk n_.Id (([] : List Int) ++ n_.Parents))]).length]))) rfl rfl ?_; refine Zpb 8 rfl ?_; cases h; cases hG; exact ⟨[(900002, 2)], [], ⟨⟨rfl, trivial⟩, trivial⟩, rfl, rfl, trivial⟩
          · refine Zcp 5 rfl ?_; refine Zo (.row 900002 1 s5.2.length) rfl rfl ?_; refine Zo (.lp 1000001 1 0) rfl rfl ?_; refine Zpp 1 rfl ?_; refine Zm (.tup []) (Mem.set _ 1000001 1 (some (.box [.row 900002 1 s5.2.length]))) rfl rfl ?_; refine Zpb 8 rfl ?_; cases h; cases hG; exact ⟨[(900002, 1)], [], ⟨⟨rfl, trivial⟩, trivial⟩, rfl, rfl, trivial⟩
noncomputable def ref07_Graph_Level_L1 (s24 : (Int × (List Int))) (g_ : linguaref07_Graph) (s45 : Int × Int) : Option ((Int × Int) ⊕ ((Int) ⊕ (((List Int)) ⊕ ((Int × (List Int)) ⊕ ((Unit) ⊕ (Int)))))) :=
  (bif (decide (s45.2 < s24.1)) then
    (getI g_.L s24.1).bind fun x722 =>
    (getI g_.L s45.2).bind fun x723 =>
    (ref07_Has x722.Parents x723.Id).bind fun y724 =>
    (bif y724 then
      (chkO (decide (0 ≤ s45.2) && decide (s45.2 < ((s24.2.length : Nat) : Int)))).bind fun _ =>
      (getI s24.2 s45.2).bind fun x726 =>
      some (.inl ((if s45.1 < (IntKind.i64.wrap (x726 + (1 : Int))) then (IntKind.i64.wrap (x726 + (1 : Int))) else s45.1), (IntKind.i64.wrap (s45.2 + (1 : Int)))))
    else
      some (.inl (s45.1, (IntKind.i64.wrap (s45.2 + (1 : Int))))))
  else
    some (.inr (.inl s45.1)))
noncomputable def ref07_Graph_Level_L2 (g_ : linguaref07_Graph) (id_ : Int) (s24 : Int × (List Int)) : Option ((Int × (List Int)) ⊕ ((Unit) ⊕ (Int))) :=
  (bif (decide (s24.1 < (g_.L.length : Int))) then
    (seqF (A := (List Int)) (
      (seqF (A := Int) (
        loopF (ref07_Graph_Level_L1 s24 g_) ((0 : Int), (0 : Int)))
      fun s44 =>
        (chkO (decide (s24.2.length + [s44].length ≤ 1000000))).bind fun _ =>
        (getI g_.L s24.1).bind fun x728 =>
        (bif (x728.Id == id_) then
          some (.inr (.inr (.inr s44)))
        else
          some (.inl (s24.2 ++ [s44])))))
    fun s42 =>
      some (.inl ((IntKind.i64.wrap (s24.1 + (1 : Int))), s42)))
  else
    some (.inr (.inl ())))
noncomputable def ref07_Graph_Level (g_ : linguaref07_Graph) (id_ : Int) : Option (Int) :=
  (seqF (A := Unit) (
    loopF (ref07_Graph_Level_L2 g_ id_) ((0 : Int), ([] : List Int)))
  fun s23 =>
    some (-1 : Int))
theorem ref07_Graph_Level_fn {dr : Prop} {g_ : linguaref07_Graph} {id_ : Int} {r : Int} (h : ref07_Graph_Level g_ id_ = some r) : Fn dr Try.prog 31 [.fp [.fz (List.map api_Node.enc g_.L)], VI id_] (VI r) := by
  refine Fn.of_AW (dr := dr) (F := FnX dr Try.prog) (base := 0) (js := [4, 11, 14]) mixed tok noeqs (fun _ _ _ h => h) Try.call31 Try.func31 rfl Try.ntmps31 (by rw [Try.results31]) (by simp) ?_; have hG : (fun x => x = r) r := rfl; unfold ref07_Graph_Level at h; refine Zap 7 rfl ?_; refine Zm (.row 5 1 0) (Mem.add _ 5 (.rows 1 (List.map (encI .i64) ([] : List Int)) false)) rfl rfl ?_; refine Zpc 2 rfl ?_; refine A.join (fun (s23 : Unit) => []) (fun s23 => []) _ h hG rfl ?_ ?_
  · intro J f h hG; refine Zac 6 rfl ?_; refine A.loop (fun (s24 : Int × (List Int)) => [(0, .fp [.fz (List.map api_Node.enc g_.L)]), (1, VI id_), (5, .row 900000 1 s24.2.length), (6, VI s24.1)]) (fun s24 => [(900000, .rows 1 (List.map (encI .i64) s24.2) false)]) _ h hG (Zf [] [(900000, (5, 1))] rfl rfl (Ze rfl rfl (Ze rfl rfl (Ze rfl rfl (Ze rfl rfl trivial)))) (Zc rfl rfl trivial)) ?_; intro J s24 f h hG; unfold ref07_Graph_Level_L2 at h; refine Zap 4 rfl ?_; refine Zo (.fp [.fz (List.map api_Node.enc g_.L)]) rfl rfl ?_; refine Zo (.fp [.fz (List.map api_Node.enc g_.L)]) rfl rfl ?_; refine Zo (.fp [.fz (List.map api_Node.enc g_.L)]) rfl rfl ?_; refine Zpp 1 rfl ?_; refine Y1 rfl ?_; refine W.len rfl ?_; refine Zpc 3 rfl ?_; refine A.condB rfl h (fun _ h => ?_) (fun _ h => ?_)
    · refine Zcc 2 rfl ?_; refine A.join (fun (s42 : (List Int)) => [(0, .fp [.fz (List.map api_Node.enc g_.L)]), (1, VI id_), (5, .row 900000 1 s42.length), (6, VI s24.1)]) (fun s42 => [(900000, .rows 1 (List.map (encI .i64) s42) false)]) _ h hG rfl ?_ ?_
      · intro J f h hG; refine Zac 6 rfl ?_; refine A.join (fun (s44 : Int) => [(0, .fp [.fz (List.map api_Node.enc g_.L)]), (1, VI id_), (5, .row 900000 1 s24.2.length), (6, VI s24.1), (7, VI s44)]) (fun s44 => [(900000, .rows 1 (List.map (encI .i64) s24.2) false)]) _ h hG rfl ?_ ?_
        · intro J f h hG; refine Zac 6 rfl ?_; refine A.loop (fun (s45 : Int × Int) => [(0, .fp [.fz (List.map api_Node.enc g_.L)]), (1, VI id_), (5, .row 900000 1 s24.2.length), (6, VI s24.1), (7, VI s45.1), (8, VI s45.2)]) (fun s45 => [(900000, .rows 1 (List.map (encI .i64) s24.2) false)]) _ h hG (Zf [] [(900000, (900000, 1))] rfl rfl (Ze rfl rfl (Ze rfl rfl (Ze rfl rfl (Ze rfl rfl (Ze rfl rfl (Ze rfl rfl trivial)))))) (Zc rfl rfl trivial)) ?_; intro J s45 f h hG; unfold ref07_Graph_Level_L1 at h; refine Zac 8 rfl ?_; refine A.condB rfl h (fun _ h => ?_) (fun _ h => ?_)
          · refine Zcc 5 rfl ?_; refine A.regionD (by kernel_rfl) ?_; refine Zo (.fp [.fz (List.map api_Node.enc g_.L)]) rfl rfl ?_; refine Zo (.fp [.fz (List.map api_Node.enc g_.L)]) rfl rfl ?_; refine Zo (.fp [.fz (List.map api_Node.enc g_.L)]) rfl rfl ?_; refine Zpp 2 rfl ?_; refine Y1 rfl ?_; refine bindK h fun x722 hx722 h => ?_; refine W.chk rfl (elemB hx722) ?_; refine W.elem rfl (elemG hx722) ?_; refine W.chk rfl rfl ?_; refine W.det (.fp [.v (.int .i64 x722.Id), .fz (List.map (encI .i64) x722.Parents)]) _ rfl ?_; refine Zo (.fp [.fz (List.map (encI .i64) x722.Parents)]) rfl rfl ?_; refine Zpp 1 rfl ?_; refine Zo (.fp [.fz (List.map api_Node.enc g_.L)]) rfl rfl ?_; refine Zo (.fp [.fz (List.map api_Node.enc g_.L)]) rfl rfl ?_; refine Zo (.fp [.fz (List.map api_Node.enc g_.L)]) rfl rfl ?_; refine Zpp 2 rfl ?_; refine Y1 rfl ?_; refine bindK h fun x723 hx723 h => ?_; refine W.chk rfl (elemB hx723) ?_; refine W.elem rfl (elemG hx723) ?_; refine W.chk rfl rfl ?_; refine W.det (.fp [.v (.int .i64 x723.Id), .fz (List.map (encI .i64) x723.Parents)]) _ rfl ?_; refine Zo (.fp [.v (.int .i64 x723.Id), .fz (List.map (encI .i64) x723.Parents)]) rfl rfl ?_; refine Zpp 1 rfl ?_; refine Y1 rfl ?_; refine bindK h fun y724 hy724 h => ?_; refine W.call rfl (ref07_Has_fn hy724) ?_; refine Zwc 3 rfl ?_; refine A.condB rfl h (fun _ h => ?_) (fun _ h => ?_)
            · refine Zcp 2 rfl ?_; refine Zo (.row 900000 1 s24.2.length) rfl rfl ?_; refine Zpp 1 rfl ?_; refine Y1 rfl ?_; refine chkK h fun g725 h => ?_; refine W.chk rfl (by simpa using g725) ?_; refine W.det (.rp 900000 1 s45.2.toNat 0) _ rfl ?_; refine Y1 rfl ?_; refine bindK h fun x726 hx726 h => ?_; refine W.elem rfl (elemG hx726) ?_; refine Zwb 12 rfl ?_; cases h; exact Zh hG [] [(900000, (900000, 1))] rfl rfl (Ze rfl rfl (Ze rfl rfl (Ze rfl rfl (Ze rfl rfl (Ze rfl rfl (Ze rfl rfl trivial)))))) (Zc rfl rfl trivial)
            · refine Zcb 8 rfl ?_; cases h; exact Zh hG [] [(900000, (900000, 1))] rfl rfl (Ze rfl rfl (Ze rfl rfl (Ze rfl rfl (Ze rfl rfl (Ze rfl rfl (Ze rfl rfl trivial)))))) (Zc rfl rfl trivial)
          · refine Zcb 2 rfl ?_; refine headK.e ?_; refine Zob 1 rfl ?_; cases h; exact Zh hG [] [(900000, (900000, 1))] rfl rfl (Ze rfl rfl (Ze rfl rfl (Ze rfl rfl (Ze rfl rfl (Ze rfl rfl trivial))))) (Zc rfl rfl trivial)
        · intro s44 r2 h hG; refine Zcp 2 rfl ?_; refine Zo (.row 900000 1 s24.2.length) rfl rfl ?_; refine Zpp 1 rfl ?_; refine Zm (.row 49 2 1) (Mem.add _ 49 (.rows 1 (List.map (encI .i64) [s44]) false)) rfl rfl ?_; refine Y1 rfl ?_; refine chkK h fun g727 h => ?_; refine W.chk rfl (appChk (fun _ => rfl) g727) ?_; refine W.app rfl rfl ?_; refine Zo (.row 900000 2 (s24.2 ++ [s44]).length) rfl rfl ?_; refine Zpp 4 rfl ?_; refine Zo (.fp [.fz (List.map api_Node.enc g_.L)]) rfl rfl ?_; refine Zo (.fp [.fz (List.map api_Node.enc g_.L)]) rfl rfl ?_; refine Zo (.fp [.fz (List.map api_Node.enc g_.L)]) rfl rfl ?_; refine Zpp 2 rfl ?_; refine Y1 rfl ?_; refine bindK h fun x728 hx728 h => ?_; refine W.chk rfl (elemB hx728) ?_; refine W.elem rfl (elemG hx728) ?_; refine W.chk rfl rfl ?_; refine W.det (.fp [.v (.int .i64 x728.Id), .fz (List.map (encI .i64) x728.Parents)]) _ rfl ?_; refine Zo (.fp [.v (.int .i64 x728.Id), .fz (List.map (encI .i64) x728.Parents)]) rfl rfl ?_; refine Zpc 5 rfl ?_; refine A.condB rfl h (fun _ h => ?_) (fun _ h => ?_)
          · refine Zcb 8 rfl ?_; refine headK.r ?_; refine headK.r ?_; refine Zob 1 rfl ?_; refine headK.r ?_; cases h; cases hG; exact ⟨rfl, trivial⟩
          · refine Zcb 2 rfl ?_; cases h; exact Zh hG [] [(900000, (900000, 2))] rfl rfl (Ze rfl rfl (Ze rfl rfl (Ze rfl rfl (Ze rfl rfl trivial)))) (Zc rfl rfl trivial)
      · intro s42 r2 h hG; refine Zcb 5 rfl ?_; cases h; exact Zh hG [] [(900000, (900000, 1))] rfl rfl (Ze rfl rfl (Ze rfl rfl (Ze rfl rfl (Ze rfl rfl trivial)))) (Zc rfl rfl trivial)
    · refine Zcb 2 rfl ?_; refine headK.e ?_; refine Zob 1 rfl ?_; cases h; exact Zh hG [] [] rfl rfl trivial trivial
  · intro s23 r2 h hG; refine Zcb 6 rfl ?_; cases h; cases hG; exact ⟨rfl, trivial⟩
end Go.Proofs.Ytlgadmholjaljaa
