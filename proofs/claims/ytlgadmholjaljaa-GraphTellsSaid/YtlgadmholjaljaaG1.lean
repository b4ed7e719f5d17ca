/-
  Plain programs of functions, and that the functions do what they say. Printed by wip/tools/gen.py.
-/
import Derived.Test.YtlgadmholjaljaaTy
import Derived.Test.YtlgadmholjaljaaEvS
import Derived.Test.YtlgadmholjaljaaEvZ
import Derived.Test.YtlgadmholjaljaaEvW1
import Derived.Test.YtlgadmholjaljaaEvY
import Derived.Test.YtlgadmholjaljaaEvRG
import Derived.Test.YtlgadmholjaljaaEvF2
import Derived.Test.YtlgadmholjaljaaEvK5
import Derived.Test.YtlgadmholjaljaaEvK8
import Derived.Test.YtlgadmholjaljaaShelf
namespace Go.Proofs.Ytlgadmholjaljaa
open Go.RowKit
attribute [local irreducible] IntKind.wrap AW runL Step.wp
set_option linter.unusedVariables false
set_option maxHeartbeats 4000000
set_option maxRecDepth 100000
structure api_Node where
  Id : Int
  Parents : (List Int)
def api_Node.enc (x : api_Node) : List D := [.v (.int .i64 x.Id), .fz (List.map (encI .i64) x.Parents)]
abbrev api_Node.av (x : api_Node) : List AV := [VI x.Id, VF (List.map (encI .i64) x.Parents)]
noncomputable def law07_node (id_ : Int) (parents_ : (List Int)) : Option (api_Node) :=
  some (api_Node.mk id_ parents_)
theorem law07_node_fn {dr : Prop} {id_ : Int} {parents_ : (List Int)} {r : api_Node} (h : law07_node id_ parents_ = some r) : Fn dr Try.prog 42 [VI id_, VF (List.map (encI .i64) parents_)] (.agg (api_Node.av r)) := by
  refine Fn.of_AW (dr := dr) (F := FnX dr Try.prog) (base := 0) (js := []) mixed tok noeqs (fun _ _ _ h => h) Try.call42 Try.func42 rfl Try.ntmps42 (by rw [Try.results42]) (by simp) ?_; have hG : (fun x => x = r) r := rfl; unfold law07_node at h; refine Zap 2 rfl ?_; refine Zm (.lp 4 1 0) (Mem.add (Mem.add _ 131076 (.rows 1 (List.map (encI .i64) ([] : List Int)) false)) 4 (.box [VI 0, .row 131076 1 0])) rfl rfl ?_; refine Zpp 6 rfl ?_; refine Zo (.agg [VI id_, VF (List.map (encI .i64) parents_)]) rfl rfl ?_; refine Zm (.tup []) (Mem.set _ 4 1 (some (.box [VI id_, VF (List.map (encI .i64) parents_)]))) rfl rfl ?_; refine Zpb 3 rfl ?_; cases h; cases hG; exact ⟨rfl, rfl, trivial⟩
structure graph_entry where
  parents : (List Int)
  level : Int
def graph_entry.enc (x : graph_entry) : List D := [.fz (List.map (encI .i64) x.parents), .v (.int .i64 x.level)]
abbrev graph_entry.av (x : graph_entry) : List AV := [VF (List.map (encI .i64) x.parents), VI x.level]
structure graph_Graph where
  nodes : (List (Int × graph_entry))
def graph_Graph.enc (x : graph_Graph) : List D := [.mz (.i .i64) (mapE (Value.int .i64) (fun x => D.ag (graph_entry.enc x)) x.nodes)]
noncomputable def graph_New : Option (graph_Graph) :=
  some (graph_Graph.mk ([] : List (Int × graph_entry)))
theorem graph_New_fn {dr : Prop} {r : graph_Graph} (h : graph_New = some r) : FnO dr Try.prog 17 [] [] (.hp [.lp 1000002 1 0, .im (.i .i64) (mapE (Value.int .i64) (fun x => D.ag (graph_entry.enc x)) r.nodes), .ib [.mp 1000001 1]]) := by
  refine FnO.of_AW (dr := dr) (F := FnX dr Try.prog) (base := 0) (jl := []) mixed tok noeqs (fun _ _ _ h => h) Try.call17 Try.func17 rfl Try.ntmps17 (by rw [Try.results17]) (by simp) (by simp) ?_; have hG : (fun x => x = r) r := rfl; unfold graph_New at h; refine Zap 2 rfl ?_; refine Zo (.d (.v (.pointer none))) rfl rfl ?_; refine Zpp 4 rfl ?_; refine Zm (.mp 1 1) (Mem.add _ 1 (.mapi (.i .i64) (mapE (Value.int .i64) (fun x => D.ag (graph_entry.enc x)) ([] : List (Int × graph_entry))))) rfl rfl ?_; refine Zo (.agg [.mp 1 1]) rfl rfl ?_; refine Zm (.lp 3 1 0) (Mem.add _ 3 (.box [.mp 1 1])) rfl rfl ?_; refine Zpb 4 rfl ?_; cases h; cases hG; exact ⟨[], [(1, 1), (3, 1)], ⟨⟨rfl, rfl⟩, ⟨rfl, trivial⟩, trivial⟩, rfl, rfl⟩
noncomputable def graph_valid_L1 (n_ : api_Node) (s3 : Int × Int) : Option ((Int × Int) ⊕ ((Unit) ⊕ (Bool))) :=
  (bif (decide (s3.2 < (n_.Parents.length : Int))) then
    (getI n_.Parents s3.2).bind fun x12 =>
    (bif (decide (x12 ≤ s3.1)) then
      some (.inr (.inr false))
    else
      (bif (decide (n_.Id ≤ x12)) then
        some (.inr (.inr false))
      else
        some (.inl (x12, (IntKind.i64.wrap (s3.2 + (1 : Int)))))))
  else
    some (.inr (.inl ())))
noncomputable def graph_valid (n_ : api_Node) : Option (Bool) :=
  (seqF (A := Unit) (
    loopF (graph_valid_L1 n_) ((-1 : Int), (0 : Int)))
  fun s2 =>
    (bif (decide ((0 : Int) ≤ n_.Id)) then
      some (decide (n_.Id < (100000 : Int)))
    else
      some false))
theorem graph_valid_fn {dr : Prop} {n_ : api_Node} {r : Bool} (h : graph_valid n_ = some r) : Fn dr Try.prog 44 [.agg (api_Node.av n_)] (VB r) := by
  refine Fn.of_AW (dr := dr) (F := FnX dr Try.prog) (base := 0) (js := [9]) mixed tok noeqs (fun _ _ _ h => h) Try.call44 Try.func44 rfl Try.ntmps44 (by rw [Try.results44]) (by simp) ?_; have hG : (fun x => x = r) r := rfl; unfold graph_valid at h; refine Zap 2 rfl ?_; refine Zm (.lp 1 1 0) (Mem.add _ 1 (.box (api_Node.av n_))) rfl rfl ?_; refine Zpc 8 rfl ?_; refine A.join (fun (s2 : Unit) => [(1, .lp 900000 1 0)]) (fun s2 => [(900000, .box (api_Node.av n_))]) _ h hG rfl ?_ ?_
  · intro J f h hG; refine Zap 4 rfl ?_; refine Y1 rfl ?_; refine W.len rfl ?_; refine Zpc 4 rfl ?_; refine A.loop (fun (s3 : Int × Int) => [(1, .lp 900000 1 0), (3, VI s3.1), (7, VF (List.map (encI .i64) n_.Parents)), (8, VI (n_.Parents.length : Int)), (9, VI s3.2)]) (fun s3 => [(900000, .box (api_Node.av n_))]) _ h hG (Zf [] [(900000, (1, 1))] rfl rfl (Ze rfl rfl (Ze rfl rfl (Ze rfl rfl (Ze rfl rfl (Ze rfl rfl trivial))))) (Zc rfl rfl trivial)) ?_; intro J s3 f h hG; unfold graph_valid_L1 at h; refine Zac 6 rfl ?_; refine A.condB rfl h (fun _ h => ?_) (fun _ h => ?_)
    · refine Zcp 6 rfl ?_; refine Y1 rfl ?_; refine bindK h fun x12 hx12 h => ?_; refine W.chk rfl (elemB hx12) ?_; refine W.elem rfl (elemG hx12) ?_; refine W.chk rfl rfl ?_; refine W.det (.fp [.v (.int .i64 x12)]) _ rfl ?_; refine Zpp 11 rfl ?_; refine YF rfl rfl rfl h (fun _ h => ?_) (fun _ h => ?_)
      · refine Zpb 16 rfl ?_; refine headK.r ?_; refine Zob 1 rfl ?_; refine headK.r ?_; cases h; cases hG; exact ⟨rfl, trivial⟩
      · refine Zwc 7 rfl ?_; refine A.condB rfl h (fun _ h => ?_) (fun _ h => ?_)
        · refine Zcb 9 rfl ?_; refine headK.r ?_; refine Zob 1 rfl ?_; refine headK.r ?_; cases h; cases hG; exact ⟨rfl, trivial⟩
        · refine Zcb 12 rfl ?_; cases h; exact Zh hG [] [(900000, (900000, 1))] rfl rfl (Ze rfl rfl (Ze rfl rfl (Ze rfl rfl (Ze rfl rfl (Ze rfl rfl trivial))))) (Zc rfl rfl trivial)
    · refine Zcb 2 rfl ?_; refine headK.e ?_; refine Zob 1 rfl ?_; cases h; exact Zh hG [] [(900000, (900000, 1))] rfl rfl (Ze rfl rfl trivial) (Zc rfl rfl trivial)
  · intro s2 r2 h hG; refine Zcp 6 rfl ?_; refine YT rfl rfl rfl h (fun _ h => ?_) (fun _ h => ?_)
    · refine Zwb 8 rfl ?_; cases h; cases hG; exact ⟨rfl, trivial⟩
    · refine Zpb 7 rfl ?_; cases h; cases hG; exact ⟨rfl, trivial⟩
noncomputable def slices_Equal_int_int_L1 (s1_ : (List Int)) (s2_ : (List Int)) (s3 : Int) : Option ((Int) ⊕ ((Unit) ⊕ (Bool))) :=
  (bif (decide (s3 < (s1_.length : Int))) then
    (getI s1_ s3).bind fun x23 =>
    (getI s2_ s3).bind fun x24 =>
    (bif (x23 != x24) then
      some (.inr (.inr false))
    else
      some (.inl (IntKind.i64.wrap (s3 + (1 : Int)))))
  else
    some (.inr (.inl ())))
noncomputable def slices_Equal_int_int (s1_ : (List Int)) (s2_ : (List Int)) : Option (Bool) :=
  (bif ((s1_.length : Int) != (s2_.length : Int)) then
    some false
  else
    (seqF (A := Unit) (
      loopF (slices_Equal_int_int_L1 s1_ s2_) (0 : Int))
    fun s2 =>
      some true))
theorem slices_Equal_int_int_fn {dr : Prop} {s1_ : (List Int)} {s2_ : (List Int)} {r : Bool} (h : slices_Equal_int_int s1_ s2_ = some r) : Fn dr Try.prog 45 [VF (List.map (encI .i64) s1_), VF (List.map (encI .i64) s2_)] (VB r) := by
  refine Fn.of_AW (dr := dr) (F := FnX dr Try.prog) (base := 0) (js := [9]) mixed tok noeqs (fun _ _ _ h => h) Try.call45 Try.func45 rfl Try.ntmps45 (by rw [Try.results45]) (by simp) ?_; have hG : (fun x => x = r) r := rfl; unfold slices_Equal_int_int at h; refine Zap 9 rfl ?_; refine Y1 rfl ?_; refine W.len rfl ?_; refine Zpp 1 rfl ?_; refine Y1 rfl ?_; refine W.len rfl ?_; refine Zpc 3 rfl ?_; refine A.condB rfl h (fun _ h => ?_) (fun _ h => ?_)
  · refine Zcb 7 rfl ?_; cases h; cases hG; exact ⟨rfl, trivial⟩
  · refine Zcc 2 rfl ?_; refine A.join (fun (s2 : Unit) => []) (fun s2 => []) _ h hG rfl ?_ ?_
    · intro J f h hG; refine Zap 3 rfl ?_; refine Y1 rfl ?_; refine W.len rfl ?_; refine Zpc 4 rfl ?_; refine A.loop (fun (s3 : Int) => [(0, VF (List.map (encI .i64) s1_)), (1, VF (List.map (encI .i64) s2_)), (12, VI (s1_.length : Int)), (13, VI s3)]) (fun s3 => []) _ h hG (Zf [] [] rfl rfl (Ze rfl rfl (Ze rfl rfl (Ze rfl rfl (Ze rfl rfl trivial)))) trivial) ?_; intro J s3 f h hG; unfold slices_Equal_int_int_L1 at h; refine Zac 6 rfl ?_; refine A.condB rfl h (fun _ h => ?_) (fun _ h => ?_)
      · refine Zcc 11 rfl ?_; refine A.regionD (by kernel_rfl) ?_; refine Zpp 2 rfl ?_; refine Y1 rfl ?_; refine bindK h fun x23 hx23 h => ?_; refine W.chk rfl (elemB hx23) ?_; refine W.elem rfl (elemG hx23) ?_; refine W.chk rfl rfl ?_; refine W.det (.fp [.v (.int .i64 x23)]) _ rfl ?_; refine Zpp 3 rfl ?_; refine Y1 rfl ?_; refine bindK h fun x24 hx24 h => ?_; refine W.chk rfl (elemB hx24) ?_; refine W.elem rfl (elemG hx24) ?_; refine W.chk rfl rfl ?_; refine W.det (.fp [.v (.int .i64 x24)]) _ rfl ?_; refine Zpc 4 rfl ?_; refine A.condB rfl h (fun _ h => ?_) (fun _ h => ?_)
        · refine Zcb 8 rfl ?_; refine headK.r ?_; refine Zob 1 rfl ?_; refine headK.r ?_; cases h; cases hG; exact ⟨rfl, trivial⟩
        · refine Zcb 7 rfl ?_; cases h; exact Zh hG [] [] rfl rfl (Ze rfl rfl (Ze rfl rfl (Ze rfl rfl (Ze rfl rfl trivial)))) trivial
      · refine Zcb 2 rfl ?_; refine headK.e ?_; refine Zob 1 rfl ?_; cases h; exact Zh hG [] [] rfl rfl trivial trivial
    · intro s2 r2 h hG; refine Zcb 6 rfl ?_; cases h; cases hG; exact ⟨rfl, trivial⟩
noncomputable def slices_Clone_int_int_a : Option ((List Int)) :=
  some ([] : List Int)
theorem slices_Clone_int_int_a_fn {dr : Prop} {r : (List Int)} (h : slices_Clone_int_int_a = some r) : Fn dr Try.prog 46 [.d (.v (.slice none 0 0))] (.ow 1 (List.map (encI .i64) r)) := by
  refine Fn.of_AW (dr := dr) (F := FnX dr Try.prog) (base := 0) (js := []) mixed tok noeqs (fun _ _ _ h => h) Try.call46 Try.func46 rfl Try.ntmps46 (by rw [Try.results46]) (by simp) ?_; have hG : (fun x => x = r) r := rfl; unfold slices_Clone_int_int_a at h; refine Zap 2 rfl ?_; refine Zm (.row 2 1 0) (Mem.add _ 2 (.rows 1 (List.map (encI .i64) ([] : List Int)) false)) rfl rfl ?_; refine Zpp 5 rfl ?_; refine Zo (.d (.v (.slice none 0 0))) rfl rfl ?_; refine Zpp 6 rfl ?_; refine Zm (.row 2 2 0) (Mem.add _ 2 (.rows 1 (List.map (encI .i64) ([] : List Int)) false)) rfl rfl ?_; refine Zpb 4 rfl ?_; cases h; cases hG; exact ⟨rfl, rfl, trivial⟩
noncomputable def slices_Clone_int_int_b (a_ : Addr) (c_ : Nat) : Option ((List Int)) :=
  (chkO (decide (0 + ([] : List Int).length ≤ 1000000))).bind fun _ =>
  some (([] : List Int) ++ ([] : List Int))
theorem slices_Clone_int_int_b_fn {dr : Prop} {a_ : Addr} {c_ : Nat} {r : (List Int)} (h : slices_Clone_int_int_b a_ c_ = some r) : Fn dr Try.prog 46 [.d (.v (.slice (some a_) 0 c_))] (.ow 1 (List.map (encI .i64) r)) := by
  refine Fn.of_AW (dr := dr) (F := FnX dr Try.prog) (base := 0) (js := []) mixed tok noeqs (fun _ _ _ h => h) Try.call46 Try.func46 rfl Try.ntmps46 (by rw [Try.results46]) (by simp) ?_; have hG : (fun x => x = r) r := rfl; unfold slices_Clone_int_int_b at h; refine Zap 2 rfl ?_; refine Zm (.row 2 1 0) (Mem.add _ 2 (.rows 1 (List.map (encI .i64) ([] : List Int)) false)) rfl rfl ?_; refine Zpp 5 rfl ?_; refine Zo (.d (.v (.slice (some a_) 0 c_))) rfl rfl ?_; refine Zpp 8 rfl ?_; refine Zm (.row 5 1 0) (Mem.add _ 5 (.rows 1 (List.map (encI .i64) ([] : List Int)) false)) rfl rfl ?_; refine Zo (.d (.v (.slice (some a_) 0 c_))) rfl rfl ?_; refine Y1 rfl ?_; refine chkK h fun g1 h => ?_; refine W.chk rfl ⟨fun _ hc => (by cases hc), of_decide_eq_true g1⟩ ?_; refine W.rows (0 + (List.map (encI .i64) ([] : List Int)).length) (([] : List Int) ++ ([] : List Int)).length ([] ++ (List.map (encI .i64) ([] : List Int))) (List.map (encI .i64) (([] : List Int) ++ ([] : List Int))) rfl (by first | rfl | (simp; done) | simp only [partMap, List.length_map, List.length_append, List.nil_append, Nat.zero_add, List.length_nil]) (by first | rfl | (simp; done) | simp only [partMap, List.map_append, List.nil_append, List.map_nil]) ?_; refine Zo (.row 5 2 (([] : List Int) ++ ([] : List Int)).length) rfl rfl ?_; refine Zpb 3 rfl ?_; cases h; cases hG; exact ⟨rfl, rfl, trivial⟩
noncomputable def slices_Clone_int_int_c (x_ : Int) (s_ : (List Int)) : Option ((List Int)) :=
  (chkO (decide (0 + (x_ :: s_).length ≤ 1000000))).bind fun _ =>
  some (([] : List Int) ++ (x_ :: s_))
theorem slices_Clone_int_int_c_fn {dr : Prop} {x_ : Int} {s_ : (List Int)} {r : (List Int)} (h : slices_Clone_int_int_c x_ s_ = some r) : Fn dr Try.prog 46 [VF (List.map (encI .i64) (x_ :: s_))] (.ow 1 (List.map (encI .i64) r)) := by
  refine Fn.of_AW (dr := dr) (F := FnX dr Try.prog) (base := 0) (js := []) mixed tok noeqs (fun _ _ _ h => h) Try.call46 Try.func46 rfl Try.ntmps46 (by rw [Try.results46]) (by simp) ?_; have hG : (fun x => x = r) r := rfl; unfold slices_Clone_int_int_c at h; refine Zap 2 rfl ?_; refine Zm (.row 2 1 0) (Mem.add _ 2 (.rows 1 (List.map (encI .i64) ([] : List Int)) false)) rfl rfl ?_; refine Zpp 14 rfl ?_; refine Zm (.row 5 1 0) (Mem.add _ 5 (.rows 1 (List.map (encI .i64) ([] : List Int)) false)) rfl rfl ?_; refine Zpp 1 rfl ?_; refine Y1 rfl ?_; refine chkK h fun g1 h => ?_; refine W.chk rfl (appChk (fun _ => rfl) g1) ?_; refine W.rows (0 + (List.map (encI .i64) (x_ :: s_)).length) (([] : List Int) ++ (x_ :: s_)).length ([] ++ (List.map (encI .i64) (x_ :: s_))) (List.map (encI .i64) (([] : List Int) ++ (x_ :: s_))) rfl (by first | rfl | (simp; done) | simp only [partMap, List.length_map, List.length_append, List.nil_append, Nat.zero_add, List.length_nil]) (by first | rfl | (simp; done) | simp only [partMap, List.map_append, List.nil_append, List.map_nil]) ?_; refine Zo (.row 5 2 (([] : List Int) ++ (x_ :: s_)).length) rfl rfl ?_; refine Zpb 3 rfl ?_; cases h; cases hG; exact ⟨rfl, rfl, trivial⟩
noncomputable def slices_Clone_int_int (s_ : List Int) : Option (List Int) := (chkO (decide (s_.length ≤ 1000000))).bind fun _ => some s_
theorem slices_Clone_int_int_fn {dr : Prop} {s_ r : List Int} (h : slices_Clone_int_int s_ = some r) : Fn dr Try.prog 46 [VF (List.map (encI .i64) s_)] (.ow 1 (List.map (encI .i64) r)) := by
  have e : s_ = r := cloneE h
  subst e
  cases s_ with
  | nil => exact Fn.slice0 (slices_Clone_int_int_a_fn rfl) fun a c => slices_Clone_int_int_b_fn (a_ := a) (c_ := c) rfl
  | cons x s =>
    refine slices_Clone_int_int_c_fn ?_; unfold slices_Clone_int_int at h; unfold slices_Clone_int_int_c
    simpa only [List.nil_append, Nat.zero_add] using h
noncomputable def graph_Graph_Add_L1 (n_ : api_Node) (g_ : graph_Graph) (s3 : Int × Int) : Option ((Int × Int) ⊕ ((Int) ⊕ (Int × graph_Graph))) :=
  (bif (decide (s3.2 < (n_.Parents.length : Int))) then
    (getI n_.Parents s3.2).bind fun x18 =>
    (bif (!(mhasT x18 g_.nodes)) then
      some (.inr (.inr ((14 : Int), g_)))
    else
      some (.inl ((if s3.1 < (IntKind.i64.wrap ((mgetT x18 g_.nodes (graph_entry.mk ([] : List Int) (0 : Int))).level + (1 : Int))) then (IntKind.i64.wrap ((mgetT x18 g_.nodes (graph_entry.mk ([] : List Int) (0 : Int))).level + (1 : Int))) else s3.1), (IntKind.i64.wrap (s3.2 + (1 : Int))))))
  else
    some (.inr (.inl s3.1)))
noncomputable def graph_Graph_Add (g_ : graph_Graph) (n_ : api_Node) : Option (Int × graph_Graph) :=
  (graph_valid n_).bind fun y2 =>
  (bif (!y2) then
    some ((1 : Int), g_)
  else
    (bif (mhasT n_.Id g_.nodes) then
      (slices_Equal_int_int (mgetT n_.Id g_.nodes (graph_entry.mk ([] : List Int) (0 : Int))).parents n_.Parents).bind fun y6 =>
      (bif (!y6) then
        some ((5 : Int), g_)
      else
        some ((0 : Int), g_))
    else
      (seqF (A := Int) (
        loopF (graph_Graph_Add_L1 n_ g_) ((0 : Int), (0 : Int)))
      fun s2 =>
        (slices_Clone_int_int n_.Parents).bind fun y19 =>
        some ((0 : Int), (graph_Graph.mk (mputT n_.Id (graph_entry.mk y19 s2) g_.nodes))))))
theorem graph_Graph_Add_fn {dr : Prop} {g_ : graph_Graph} {n_ : api_Node} {r : Int × graph_Graph} (h : graph_Graph_Add g_ n_ = some r) : FnO dr Try.prog 16 [.ib [.mp 1000002 1], .im (.i .i64) (mapE (Value.int .i64) (fun x => D.ag (graph_entry.enc x)) g_.nodes)] [.lp 1000001 1 0, .agg (api_Node.av n_)] (.hp [VI r.1, .ib [.mp 1000002 1], .im (.i .i64) (mapE (Value.int .i64) (fun x => D.ag (graph_entry.enc x)) r.2.nodes)]) := by
  refine FnO.of_AW (dr := dr) (F := FnX dr Try.prog) (base := 0) (jl := [17]) mixed tok noeqs (fun _ _ _ h => h) Try.call16 Try.func16 rfl Try.ntmps16 (by rw [Try.results16]) (by simp) (by simp) ?_; have hG : (fun x => x = r) r := rfl; unfold graph_Graph_Add at h; refine Zap 2 rfl ?_; refine Zm (.lp 3 1 0) (Mem.add _ 3 (.box (api_Node.av n_))) rfl rfl ?_; refine Zpp 6 rfl ?_; refine Zo (.agg (api_Node.av n_)) rfl rfl ?_; refine Y1 rfl ?_; refine bindK h fun y2 hy2 h => ?_; refine W.call rfl (graph_valid_fn hy2) ?_; refine Zwc 4 rfl ?_; refine A.condB rfl h (fun _ h => ?_) (fun _ h => ?_)
  · refine Zcb 7 rfl ?_; cases h; cases hG; exact ⟨[], [], ⟨⟨rfl, trivial⟩, ⟨rfl, rfl⟩, trivial⟩, rfl, rfl, trivial⟩
  · refine Zcc 4 rfl ?_; refine A.regionD (by kernel_rfl) ?_; refine Zpp 1 rfl ?_; refine Zo (.lp 1000001 1 0) rfl rfl ?_; refine Zpp 1 rfl ?_; refine Zo (.mp 1000002 1) rfl rfl ?_; refine Zpp 2 rfl ?_; refine Y1 rfl ?_; refine W.look2 (Value.int .i64) (fun x => D.ag (graph_entry.enc x)) n_.Id g_.nodes (graph_entry.mk ([] : List Int) (0 : Int)) (fun _ _ => rfl) rfl ?_; refine Zo (.tup [.agg [VF (List.map (encI .i64) (mgetT n_.Id g_.nodes (graph_entry.mk ([] : List Int) (0 : Int))).parents), VI ((mgetT n_.Id g_.nodes (graph_entry.mk ([] : List Int) (0 : Int))).level)], VB (mhasT n_.Id g_.nodes)]) rfl rfl ?_; refine Zo (.agg [VF (List.map (encI .i64) (mgetT n_.Id g_.nodes (graph_entry.mk ([] : List Int) (0 : Int))).parents), VI ((mgetT n_.Id g_.nodes (graph_entry.mk ([] : List Int) (0 : Int))).level)]) rfl rfl ?_; refine Zpp 1 rfl ?_; refine Zm (.lp 5 1 0) (Mem.add (Mem.add _ 65541 (.rows 1 (List.map (encI .i64) ([] : List Int)) false)) 5 (.box [.row 65541 1 0, VI 0])) rfl rfl ?_; refine Zm (.tup []) (Mem.set _ 5 1 (some (.box [VF (List.map (encI .i64) (mgetT n_.Id g_.nodes (graph_entry.mk ([] : List Int) (0 : Int))).parents), VI ((mgetT n_.Id g_.nodes (graph_entry.mk ([] : List Int) (0 : Int))).level)]))) rfl rfl ?_; refine Zpc 8 rfl ?_; refine A.condB rfl h (fun _ h => ?_) (fun _ h => ?_)
    · refine Zcp 7 rfl ?_; refine Y1 rfl ?_; refine bindK h fun y6 hy6 h => ?_; refine W.call rfl (slices_Equal_int_int_fn hy6) ?_; refine Zwc 4 rfl ?_; refine A.condB rfl h (fun _ h => ?_) (fun _ h => ?_)
      · refine Zcb 8 rfl ?_; cases h; cases hG; exact ⟨[], [], ⟨⟨rfl, trivial⟩, ⟨rfl, rfl⟩, trivial⟩, rfl, rfl, trivial⟩
      · refine Zcb 9 rfl ?_; cases h; cases hG; exact ⟨[], [], ⟨⟨rfl, trivial⟩, ⟨rfl, rfl⟩, trivial⟩, rfl, rfl, trivial⟩
    · refine Zcc 7 rfl ?_; refine A.join (fun (s2 : Int) => [(0, .lp 1000001 1 0), (3, .lp 900001 1 0), (7, VI s2)]) (fun s2 => [(1000001, .box [.mp 1000002 1]), (900001, .box (api_Node.av n_)), (1000002, .mapi (.i .i64) (mapE (Value.int .i64) (fun x => D.ag (graph_entry.enc x)) g_.nodes))]) _ h hG rfl ?_ ?_
      · intro J f h hG; refine Zap 4 rfl ?_; refine Y1 rfl ?_; refine W.len rfl ?_; refine Zpc 4 rfl ?_; refine A.loop (fun (s3 : Int × Int) => [(0, .lp 1000001 1 0), (3, .lp 900001 1 0), (7, VI s3.1), (33, VF (List.map (encI .i64) n_.Parents)), (34, VI (n_.Parents.length : Int)), (35, VI s3.2)]) (fun s3 => [(1000001, .box [.mp 1000002 1]), (900001, .box (api_Node.av n_)), (1000002, .mapi (.i .i64) (mapE (Value.int .i64) (fun x => D.ag (graph_entry.enc x)) g_.nodes))]) _ h hG (Zf [] [(900001, (3, 1))] rfl rfl (Ze rfl rfl (Ze rfl rfl (Ze rfl rfl (Ze rfl rfl (Ze rfl rfl (Ze rfl rfl trivial)))))) (Zc rfl rfl (Zc rfl rfl (Zc rfl rfl trivial)))) ?_; intro J s3 f h hG; unfold graph_Graph_Add_L1 at h; refine Zac 6 rfl ?_; refine A.condB rfl h (fun _ h => ?_) (fun _ h => ?_)
        · refine Zcp 6 rfl ?_; refine Y1 rfl ?_; refine bindK h fun x18 hx18 h => ?_; refine W.chk rfl (elemB hx18) ?_; refine W.elem rfl (elemG hx18) ?_; refine W.chk rfl rfl ?_; refine W.det (.fp [.v (.int .i64 x18)]) _ rfl ?_; refine Zpp 7 rfl ?_; refine Zo (.lp 1000001 1 0) rfl rfl ?_; refine Zpp 1 rfl ?_; refine Zo (.mp 1000002 1) rfl rfl ?_; refine Zpp 1 rfl ?_; refine Y1 rfl ?_; refine W.look2 (Value.int .i64) (fun x => D.ag (graph_entry.enc x)) x18 g_.nodes (graph_entry.mk ([] : List Int) (0 : Int)) (fun _ _ => rfl) rfl ?_; refine Zo (.tup [.agg [VF (List.map (encI .i64) (mgetT x18 g_.nodes (graph_entry.mk ([] : List Int) (0 : Int))).parents), VI ((mgetT x18 g_.nodes (graph_entry.mk ([] : List Int) (0 : Int))).level)], VB (mhasT x18 g_.nodes)]) rfl rfl ?_; refine Zo (.agg [VF (List.map (encI .i64) (mgetT x18 g_.nodes (graph_entry.mk ([] : List Int) (0 : Int))).parents), VI ((mgetT x18 g_.nodes (graph_entry.mk ([] : List Int) (0 : Int))).level)]) rfl rfl ?_; refine Zpp 1 rfl ?_; refine Zm (.lp 10 2 0) (Mem.add (Mem.add _ 65546 (.rows 1 (List.map (encI .i64) ([] : List Int)) false)) 10 (.box [.row 65546 2 0, VI 0])) rfl rfl ?_; refine Zm (.tup []) (Mem.set _ 10 2 (some (.box [VF (List.map (encI .i64) (mgetT x18 g_.nodes (graph_entry.mk ([] : List Int) (0 : Int))).parents), VI ((mgetT x18 g_.nodes (graph_entry.mk ([] : List Int) (0 : Int))).level)]))) rfl rfl ?_; refine Zpc 10 rfl ?_; refine A.condB rfl h (fun _ h => ?_) (fun _ h => ?_)
          · refine Zcb 9 rfl ?_; refine headK.r ?_; refine Zob 1 rfl ?_; refine headK.r ?_; cases h; cases hG; exact ⟨[], [], ⟨⟨rfl, trivial⟩, ⟨rfl, rfl⟩, trivial⟩, rfl, rfl, trivial⟩
          · refine Zcb 16 rfl ?_; cases h; exact Zh hG [] [(900001, (900001, 1))] rfl rfl (Ze rfl rfl (Ze rfl rfl (Ze rfl rfl (Ze rfl rfl (Ze rfl rfl (Ze rfl rfl trivial)))))) (Zc rfl rfl (Zc rfl rfl (Zc rfl rfl trivial)))
        · refine Zcb 2 rfl ?_; refine headK.e ?_; refine Zob 1 rfl ?_; cases h; exact Zh hG [] [(900001, (900001, 1))] rfl rfl (Ze rfl rfl (Ze rfl rfl (Ze rfl rfl trivial))) (Zc rfl rfl (Zc rfl rfl (Zc rfl rfl trivial)))
      · intro s2 r2 h hG; refine Zcc 1 rfl ?_; refine A.regionD (by kernel_rfl) ?_; refine Zpp 1 rfl ?_; refine Zo (.lp 1000001 1 0) rfl rfl ?_; refine Zpp 1 rfl ?_; refine Zo (.mp 1000002 1) rfl rfl ?_; refine Zpp 4 rfl ?_; refine Y1 rfl ?_; refine bindK h fun y19 hy19 h => ?_; refine W.call rfl (slices_Clone_int_int_fn hy19) ?_; refine W.v (.row 64 2 (List.map (encI .i64) y19).length) (.row 64 2 y19.length) (Mem.add _ 64 (.rows 1 (List.map (encI .i64) y19) false)) rfl (by simp only [List.length_map]) ?_; refine Zpp 1 rfl ?_; refine Zo (.agg [.row 64 2 y19.length, VI s2]) rfl rfl ?_; refine Y1 rfl ?_; refine W.mput (Value.int .i64) (fun x => D.ag (graph_entry.enc x)) n_.Id (graph_entry.mk y19 s2) g_.nodes (fun _ _ => rfl) rfl ?_; refine Zpb 8 rfl ?_; cases h; cases hG; exact ⟨[], [], ⟨⟨rfl, trivial⟩, ⟨rfl, rfl⟩, trivial⟩, rfl, rfl, trivial⟩
noncomputable def law07_made_L1 (l_ : (List api_Node)) (s3 : Int × (List (Int × graph_entry))) : Option ((Int × (List (Int × graph_entry))) ⊕ (((List (Int × graph_entry))) ⊕ (graph_Graph))) :=
  (bif (decide (s3.1 < (l_.length : Int))) then
    (getI l_ s3.1).bind fun x24 =>
    (graph_Graph_Add (graph_Graph.mk s3.2) x24).bind fun y25 =>
    some (.inl ((IntKind.i64.wrap (s3.1 + (1 : Int))), y25.2.nodes))
  else
    some (.inr (.inl s3.2)))
noncomputable def law07_made (l_ : (List api_Node)) : Option (graph_Graph) :=
  (graph_New).bind fun y1 =>
  (seqF (A := (List (Int × graph_entry))) (
    loopF (law07_made_L1 l_) ((0 : Int), y1.nodes))
  fun s2 =>
    some (graph_Graph.mk s2))
theorem law07_made_fn {dr : Prop} {l_ : (List api_Node)} {r : graph_Graph} (h : law07_made l_ = some r) : FnO dr Try.prog 41 [] [VF (List.map api_Node.enc l_)] (.hp [.lp 1000002 1 0, .im (.i .i64) (mapE (Value.int .i64) (fun x => D.ag (graph_entry.enc x)) r.nodes), .ib [.mp 1000001 1]]) := by
  refine FnO.of_AW (dr := dr) (F := FnX dr Try.prog) (base := 0) (jl := [6]) mixed tok noeqs (fun _ _ _ h => h) Try.call41 Try.func41 rfl Try.ntmps41 (by rw [Try.results41]) (by simp) (by simp) ?_; have hG : (fun x => x = r) r := rfl; unfold law07_made at h; refine Zap 2 rfl ?_; refine Zo (.d (.v (.pointer none))) rfl rfl ?_; refine Zpp 4 rfl ?_; refine Y1 rfl ?_; refine bindK h fun y1 hy1 h => ?_; refine W.call rfl (graph_New_fn hy1) ?_; refine W.det (.lp 536870917 1 0) (Mem.add (Mem.add _ 268435461 (.mapi (.i .i64) (mapE (Value.int .i64) (fun x => D.ag (graph_entry.enc x)) y1.nodes))) 536870917 (.box [.mp 268435461 1])) rfl ?_; refine Zpc 3 rfl ?_; refine A.join (fun (s2 : (List (Int × graph_entry))) => [(3, .lp 900000 1 0)]) (fun s2 => [(900000, .box [.mp 900001 1]), (900001, .mapi (.i .i64) (mapE (Value.int .i64) (fun x => D.ag (graph_entry.enc x)) s2))]) _ h hG rfl ?_ ?_
  · intro J f h hG; refine Zac 6 rfl ?_; refine A.loop (fun (s3 : Int × (List (Int × graph_entry))) => [(0, VF (List.map api_Node.enc l_)), (3, .lp 900000 1 0), (4, VI s3.1)]) (fun s3 => [(900000, .box [.mp 900001 1]), (900001, .mapi (.i .i64) (mapE (Value.int .i64) (fun x => D.ag (graph_entry.enc x)) s3.2))]) _ h hG (Zf [] [(900000, (536870917, 1)), (900001, (268435461, 1))] rfl rfl (Ze rfl rfl (Ze rfl rfl (Ze rfl rfl trivial))) (Zc rfl rfl (Zc rfl rfl trivial))) ?_; intro J s3 f h hG; unfold law07_made_L1 at h; refine Zap 5 rfl ?_; refine Y1 rfl ?_; refine W.len rfl ?_; refine Zpp 2 rfl ?_; refine YT rfl rfl rfl h (fun _ h => ?_) (fun _ h => ?_)
    · refine Zwp 14 rfl ?_; refine Y1 rfl ?_; refine bindK h fun x24 hx24 h => ?_; refine W.chk rfl (elemB hx24) ?_; refine W.elem rfl (elemG hx24) ?_; refine W.chk rfl rfl ?_; refine W.det (.fp [.v (.int .i64 x24.Id), .fz (List.map (encI .i64) x24.Parents)]) _ rfl ?_; refine Zo (.agg (api_Node.av x24)) rfl rfl ?_; refine Y1 rfl ?_; refine bindK h fun y25 hy25 h => ?_; refine W.call rfl (graph_Graph_Add_fn hy25) ?_; refine W.det (VI y25.1) (Mem.set (Mem.set _ 900000 1 (some (.box [.mp 900001 1]))) 900001 1 (some (.mapi (.i .i64) (mapE (Value.int .i64) (fun x => D.ag (graph_entry.enc x)) y25.2.nodes)))) rfl ?_; refine Zpb 8 rfl ?_; cases h; exact Zh hG [] [(900000, (900000, 1)), (900001, (900001, 1))] rfl rfl (Ze rfl rfl (Ze rfl rfl (Ze rfl rfl trivial))) (Zc rfl rfl (Zc rfl rfl trivial))
    · refine Zpb 7 rfl ?_; refine headK.e ?_; refine Zob 1 rfl ?_; cases h; exact Zh hG [] [(900000, (900000, 1)), (900001, (900001, 1))] rfl rfl (Ze rfl rfl trivial) (Zc rfl rfl (Zc rfl rfl trivial))
  · intro s2 r2 h hG; refine Zcb 7 rfl ?_; cases h; cases hG; exact ⟨[], [(900001, 1), (900000, 1)], ⟨⟨rfl, rfl⟩, ⟨rfl, trivial⟩, trivial⟩, rfl, rfl⟩
noncomputable def graph_Graph_Has (g_ : graph_Graph) (id_ : Int) : Option (Bool) :=
  some (mhasT id_ g_.nodes)
theorem graph_Graph_Has_fn {dr : Prop} {g_ : graph_Graph} {id_ : Int} {r : Bool} (h : graph_Graph_Has g_ id_ = some r) : Fn dr Try.prog 19 [.fp [.mz (.i .i64) (mapE (Value.int .i64) (fun x => D.ag (graph_entry.enc x)) g_.nodes)], VI id_] (VB r) := by
  refine Fn.of_AW (dr := dr) (F := FnX dr Try.prog) (base := 0) (js := []) mixed tok noeqs (fun _ _ _ h => h) Try.call19 Try.func19 rfl Try.ntmps19 (by rw [Try.results19]) (by simp) ?_; have hG : (fun x => x = r) r := rfl; unfold graph_Graph_Has at h; refine Zap 7 rfl ?_; refine Zo (.fp [.mz (.i .i64) (mapE (Value.int .i64) (fun x => D.ag (graph_entry.enc x)) g_.nodes)]) rfl rfl ?_; refine Zo (.fp [.mz (.i .i64) (mapE (Value.int .i64) (fun x => D.ag (graph_entry.enc x)) g_.nodes)]) rfl rfl ?_; refine Zo (.fp [.mz (.i .i64) (mapE (Value.int .i64) (fun x => D.ag (graph_entry.enc x)) g_.nodes)]) rfl rfl ?_; refine Zo (.d (.mz (.i .i64) (mapE (Value.int .i64) (fun x => D.ag (graph_entry.enc x)) g_.nodes))) rfl rfl ?_; refine Zpp 1 rfl ?_; refine Y1 rfl ?_; refine W.look2 (Value.int .i64) (fun x => D.ag (graph_entry.enc x)) id_ g_.nodes (graph_entry.mk ([] : List Int) (0 : Int)) (fun _ _ => rfl) rfl ?_; refine Zo (.tup [.agg [VF (List.map (encI .i64) (mgetT id_ g_.nodes (graph_entry.mk ([] : List Int) (0 : Int))).parents), VI ((mgetT id_ g_.nodes (graph_entry.mk ([] : List Int) (0 : Int))).level)], VB (mhasT id_ g_.nodes)]) rfl rfl ?_; refine Zo (.agg [VF (List.map (encI .i64) (mgetT id_ g_.nodes (graph_entry.mk ([] : List Int) (0 : Int))).parents), VI ((mgetT id_ g_.nodes (graph_entry.mk ([] : List Int) (0 : Int))).level)]) rfl rfl ?_; refine Zpp 1 rfl ?_; refine Zm (.lp 5 1 0) (Mem.add (Mem.add _ 65541 (.rows 1 (List.map (encI .i64) ([] : List Int)) false)) 5 (.box [.row 65541 1 0, VI 0])) rfl rfl ?_; refine Zm (.tup []) (Mem.set _ 5 1 (some (.box [VF (List.map (encI .i64) (mgetT id_ g_.nodes (graph_entry.mk ([] : List Int) (0 : Int))).parents), VI ((mgetT id_ g_.nodes (graph_entry.mk ([] : List Int) (0 : Int))).level)]))) rfl rfl ?_; refine Zpb 10 rfl ?_; cases h; cases hG; exact ⟨rfl, trivial⟩
noncomputable def graph_Graph_Down_1 (id_ : Int) (c0_ : graph_Graph) : Option (Bool) :=
  (graph_Graph_Has c0_ id_).bind fun y1 =>
  some (!y1)
theorem graph_Graph_Down_1_fn {dr : Prop} {id_ : Int} {c0_ : graph_Graph} {r : Bool} (h : graph_Graph_Down_1 id_ c0_ = some r) : Fn dr Try.prog 59 [VI id_, .fp [.pz [.mz (.i .i64) (mapE (Value.int .i64) (fun x => D.ag (graph_entry.enc x)) c0_.nodes)]]] (VB r) := by
  refine Fn.of_AW (dr := dr) (F := FnX dr Try.prog) (base := 0) (js := []) mixed tok noeqs (fun _ _ _ h => h) Try.call59 Try.func59 rfl Try.ntmps59 (by rw [Try.results59]) (by simp) ?_; have hG : (fun x => x = r) r := rfl; unfold graph_Graph_Down_1 at h; refine Zap 7 rfl ?_; refine Zo (.fp [.mz (.i .i64) (mapE (Value.int .i64) (fun x => D.ag (graph_entry.enc x)) c0_.nodes)]) rfl rfl ?_; refine Zpp 1 rfl ?_; refine Y1 rfl ?_; refine bindK h fun y1 hy1 h => ?_; refine W.call rfl (Fn.toO (graph_Graph_Has_fn hy1) trivial rfl) ?_; refine Zwb 6 rfl ?_; cases h; cases hG; exact ⟨rfl, trivial⟩
noncomputable def slices_IndexFunc_int_int_L1 (s_ : (List Int)) (f_ : (Int → Option (Bool))) (s3 : Int) : Option ((Int) ⊕ ((Unit) ⊕ (Int))) :=
  (bif (decide (s3 < (s_.length : Int))) then
    (getI s_ s3).bind fun x23 =>
    (f_ x23).bind fun y24 =>
    (bif y24 then
      some (.inr (.inr s3))
    else
      some (.inl (IntKind.i64.wrap (s3 + (1 : Int)))))
  else
    some (.inr (.inl ())))
noncomputable def slices_IndexFunc_int_int (s_ : (List Int)) (f_ : (Int → Option (Bool))) : Option (Int) :=
  (seqF (A := Unit) (
    loopF (slices_IndexFunc_int_int_L1 s_ f_) (0 : Int))
  fun s2 =>
    some (-1 : Int))
theorem slices_IndexFunc_int_int_fn {dr : Prop} {s_ : (List Int)} {f_ : (Int → Option (Bool))} {f_F : FuncId} {f_C : List AV} (f_H : f_C.all capd = true) (f_P : ∀ (q0 : Int) (z : Bool), f_ q0 = some z → Fn dr Try.prog f_F ([VI q0] ++ f_C) (VB z)) {r : Int} (h : slices_IndexFunc_int_int s_ f_ = some r) : Fn dr Try.prog 62 [VF (List.map (encI .i64) s_), .fn f_F f_C] (VI r) := by
  refine Fn.of_AW (dr := dr) (F := FnX dr Try.prog) (base := 0) (js := [7]) mixed tok noeqs (fun _ _ _ h => h) Try.call62 Try.func62 rfl Try.ntmps62 (by rw [Try.results62]) (by simp) ?_; have hG : (fun x => x = r) r := rfl; unfold slices_IndexFunc_int_int at h; refine Zac 5 rfl ?_; refine A.join (fun (s2 : Unit) => []) (fun s2 => []) _ h hG rfl ?_ ?_
  · intro J f h hG; refine Zap 3 rfl ?_; refine Y1 rfl ?_; refine W.len rfl ?_; refine Zpc 4 rfl ?_; refine A.loop (fun (s3 : Int) => [(0, VF (List.map (encI .i64) s_)), (1, .fn f_F f_C), (7, VI (s_.length : Int)), (8, VI s3)]) (fun s3 => []) _ h hG (Zf [] [] rfl rfl (Ze rfl rfl (chkE.g f_H rfl (Ze rfl rfl (Ze rfl rfl trivial)))) trivial) ?_; intro J s3 f h hG; unfold slices_IndexFunc_int_int_L1 at h; refine Zac 6 rfl ?_; refine A.condB rfl h (fun _ h => ?_) (fun _ h => ?_)
    · refine Zcp 12 rfl ?_; refine Zo (.fn f_F f_C) rfl rfl ?_; refine Zpp 2 rfl ?_; refine Y1 rfl ?_; refine bindK h fun x23 hx23 h => ?_; refine W.chk rfl (elemB hx23) ?_; refine W.elem rfl (elemG hx23) ?_; refine W.chk rfl rfl ?_; refine W.det (.fp [.v (.int .i64 x23)]) _ rfl ?_; refine Zpp 1 rfl ?_; refine Y1 rfl ?_; refine bindK h fun y24 hy24 h => ?_; refine callG rfl rfl rfl f_H ?_; refine W.call rfl (f_P _ _ hy24) ?_; refine Zwc 3 rfl ?_; refine A.condB rfl h (fun _ h => ?_) (fun _ h => ?_)
      · refine Zcb 9 rfl ?_; refine headK.r ?_; refine Zob 1 rfl ?_; refine headK.r ?_; cases h; cases hG; exact ⟨rfl, trivial⟩
      · refine Zcb 7 rfl ?_; cases h; exact Zh hG [] [] rfl rfl (Ze rfl rfl (chkE.g f_H rfl (Ze rfl rfl (Ze rfl rfl trivial)))) trivial
    · refine Zcb 2 rfl ?_; refine headK.e ?_; refine Zob 1 rfl ?_; cases h; exact Zh hG [] [] rfl rfl trivial trivial
  · intro s2 r2 h hG; refine Zcb 6 rfl ?_; cases h; cases hG; exact ⟨rfl, trivial⟩
noncomputable def slices_DeleteFunc_int_int_L1 (del_ : (Int → Option (Bool))) (s3 : Int × Int × (List Int)) : Option ((Int × Int × (List Int)) ⊕ ((Int × (List Int)) ⊕ ((List Int)))) :=
  (bif (decide (s3.2.1 < ((s3.2.2.length : Nat) : Int))) then
    (chkO (decide (0 ≤ s3.2.1) && decide (s3.2.1 < ((s3.2.2.length : Nat) : Int)))).bind fun _ =>
    (getI s3.2.2 s3.2.1).bind fun x58 =>
    (del_ x58).bind fun y59 =>
    (bif (!y59) then
      (chkO (decide (0 ≤ s3.1) && decide (s3.1 < ((s3.2.2.length : Nat) : Int)))).bind fun _ =>
      (getI s3.2.2 s3.1).bind fun x61 =>
      some (.inl ((IntKind.i64.wrap (s3.1 + (1 : Int))), (IntKind.i64.wrap (s3.2.1 + (1 : Int))), (List.set s3.2.2 s3.1.toNat x58)))
    else
      some (.inl (s3.1, (IntKind.i64.wrap (s3.2.1 + (1 : Int))), s3.2.2)))
  else
    some (.inr (.inl (s3.1, s3.2.2))))
noncomputable def slices_DeleteFunc_int_int (s_ : (List Int)) (del_ : (Int → Option (Bool))) : Option ((List Int)) :=
  (slices_IndexFunc_int_int s_ del_).bind fun y1 =>
  (bif (y1 == (-1 : Int)) then
    some s_
  else
    (seqF (A := Int × (List Int)) (
      loopF (slices_DeleteFunc_int_int_L1 del_) (y1, (IntKind.i64.wrap (y1 + (1 : Int))), s_))
    fun s2 =>
      (chkO (cutO s2.1 ((s2.2.length : Nat) : Int) ((s2.2.length : Nat) : Int))).bind fun _ =>
      (chkO (cutO (0 : Int) s2.1 ((s2.2.length : Nat) : Int))).bind fun _ =>
      some (List.take (s2.1 - (0 : Int)).toNat (List.take s2.1.toNat s2.2 ++ List.replicate (((s2.2.length : Nat) : Int) - s2.1).toNat (0 : Int) ++ List.drop (s2.1.toNat + (((s2.2.length : Nat) : Int) - s2.1).toNat) s2.2))))
theorem slices_DeleteFunc_int_int_fn {dr : Prop} {s_ : (List Int)} {del_ : (Int → Option (Bool))} {del_F : FuncId} {del_C : List AV} (del_H : del_C.all capd = true) (del_P : ∀ (q0 : Int) (z : Bool), del_ q0 = some z → Fn dr Try.prog del_F ([VI q0] ++ del_C) (VB z)) {r : (List Int)} (h : slices_DeleteFunc_int_int s_ del_ = some r) : FnW dr Try.prog 49 1 (List.map (encI .i64) s_) [.fn del_F del_C] (.tup [.ow 1 (List.map (encI .i64) r)]) := by
  refine FnW.of_AW (n := s_.length) (dr := dr) (F := FnX dr Try.prog) (base := 0) (js := [11]) mixed tok noeqs (fun _ _ _ h => h) Try.call49 Try.func49 rfl Try.ntmps49 (by rw [Try.results49]) (by simp) (by simp) ?_; have hG : (fun x => x = r) r := rfl; unfold slices_DeleteFunc_int_int at h; refine Zap 2 rfl ?_; refine Zm (.row 4 1 0) (Mem.add _ 4 (.rows 1 (List.map (encI .i64) ([] : List Int)) false)) rfl rfl ?_; refine Zpp 4 rfl ?_; refine Zo (.row 1000000 1 s_.length) rfl rfl ?_; refine Zo (.fn del_F del_C) rfl rfl ?_; refine Y1 rfl ?_; refine bindK h fun y1 hy1 h => ?_; refine callZ [some (.row 1000000 1 s_.length)] rfl rfl rfl rfl del_H ?_; refine W.call rfl (slices_IndexFunc_int_int_fn (f_F := del_F) (f_C := del_C) del_H del_P hy1) ?_; refine Zwc 11 rfl ?_; refine A.condB rfl h (fun _ h => ?_) (fun _ h => ?_)
  · refine Zcp 2 rfl ?_; refine Zo (.row 1000000 1 s_.length) rfl rfl ?_; refine Zo (.row 1000000 1 s_.length) rfl rfl ?_; refine Zpb 4 rfl ?_; cases h; cases hG; exact ⟨(Plain.map encI_plain _), rfl⟩
  · refine Zcc 2 rfl ?_; refine A.join (fun (s2 : Int × (List Int)) => [(0, .row 900000 1 s2.2.length), (5, VI s2.1)]) (fun s2 => [(900000, .rows 1 (List.map (encI .i64) s2.2) false)]) _ h hG rfl ?_ ?_
    · intro J f h hG; refine Zac 8 rfl ?_; refine A.loop (fun (s3 : Int × Int × (List Int)) => [(0, .row 900000 1 s3.2.2.length), (1, .fn del_F del_C), (5, VI s3.1), (6, VI s3.2.1)]) (fun s3 => [(900000, .rows 1 (List.map (encI .i64) s3.2.2) false)]) _ h hG (Zf [] [(900000, (1000000, 1))] rfl rfl (Ze rfl rfl (chkE.g del_H rfl (Ze rfl rfl (Ze rfl rfl trivial)))) (Zc rfl rfl trivial)) ?_; intro J s3 f h hG; unfold slices_DeleteFunc_int_int_L1 at h; refine Zap 4 rfl ?_; refine Zo (.row 900000 1 s3.2.2.length) rfl rfl ?_; refine Zpc 4 rfl ?_; refine A.condB rfl h (fun _ h => ?_) (fun _ h => ?_)
      · refine Zcp 6 rfl ?_; refine Zo (.row 900000 1 s3.2.2.length) rfl rfl ?_; refine Zpp 1 rfl ?_; refine Y1 rfl ?_; refine chkK h fun g57 h => ?_; refine W.chk rfl (by simpa using g57) ?_; refine W.det (.rp 900000 1 s3.2.1.toNat 0) _ rfl ?_; refine Y1 rfl ?_; refine bindK h fun x58 hx58 h => ?_; refine W.elem rfl (elemG hx58) ?_; refine Zwp 6 rfl ?_; refine Zo (.fn del_F del_C) rfl rfl ?_; refine Zpp 1 rfl ?_; refine Y1 rfl ?_; refine bindK h fun y59 hy59 h => ?_; refine callG rfl rfl rfl del_H ?_; refine W.call rfl (del_P _ _ hy59) ?_; refine Zwc 4 rfl ?_; refine A.condB rfl h (fun _ h => ?_) (fun _ h => ?_)
        · refine Zcp 2 rfl ?_; refine Zo (.row 900000 1 s3.2.2.length) rfl rfl ?_; refine Zpp 2 rfl ?_; refine Y1 rfl ?_; refine chkK h fun g60 h => ?_; refine W.chk rfl (by simpa using g60) ?_; refine W.det (.rp 900000 1 s3.1.toNat 0) _ rfl ?_; refine Y1 rfl ?_; refine bindK h fun x61 hx61 h => ?_; refine W.elem rfl (elemG hx61) ?_; refine W.set x58 rfl rfl ?_; refine Zpb 14 rfl ?_; cases h; exact Zh hG [] [(900000, (900000, 1))] rfl rfl (chkE.c rfl (by simp only [List.length_set]; rfl) (chkE.g del_H rfl (Ze rfl rfl (Ze rfl rfl trivial)))) (Zc rfl rfl trivial)
        · refine Zcb 8 rfl ?_; cases h; exact Zh hG [] [(900000, (900000, 1))] rfl rfl (Ze rfl rfl (chkE.g del_H rfl (Ze rfl rfl (Ze rfl rfl trivial)))) (Zc rfl rfl trivial)
      · refine Zcb 2 rfl ?_; refine headK.e ?_; refine Zob 1 rfl ?_; cases h; exact Zh hG [] [(900000, (900000, 1))] rfl rfl (Ze rfl rfl (Ze rfl rfl trivial)) (Zc rfl rfl trivial)
    · intro s2 r2 h hG; refine Zcp 2 rfl ?_; refine Zo (.row 900000 1 s2.2.length) rfl rfl ?_; refine Zpp 1 rfl ?_; refine Y1 rfl ?_; refine chkK h fun g62 h => ?_; refine W.chk rfl (cutO_all g62) ?_; refine W.det (.sub 900000 1 s2.1.toNat (((s2.2.length : Nat) : Int) - s2.1).toNat) _ rfl ?_; refine Y1 rfl ?_; refine W.to (v2 := (.tup [])) (m2 := (Mem.set _ 900000 1 (some (.rows 1 (List.map (encI .i64) (List.take s2.1.toNat s2.2 ++ List.replicate (((s2.2.length : Nat) : Int) - s2.1).toNat (0 : Int) ++ List.drop (s2.1.toNat + (((s2.2.length : Nat) : Int) - s2.1).toNat) s2.2)) false)))) rfl rfl (congrArg (fun q => Mem.set _ 900000 1 (some (Inst.rows 1 q false))) (clrMap (encI .i64) (0 : Int) s2.2 s2.1.toNat (((s2.2.length : Nat) : Int) - s2.1).toNat)) ?_; refine Zpp 4 rfl ?_; refine Zo (.row 900000 1 s2.2.length) rfl rfl ?_; refine Zpp 1 rfl ?_; refine Y1 rfl ?_; refine chkK h fun g63 h => ?_; refine W.chk rfl (cutO_all g63) ?_; refine W.det (.sub 900000 1 0 (s2.1 - (0 : Int)).toNat) _ rfl ?_; refine Zo (.sub 900000 1 0 (s2.1 - (0 : Int)).toNat) rfl rfl ?_; refine Zpb 3 rfl ?_; cases h; cases hG
      exact ⟨(Plain.map encI_plain _), _, rfl, by simp only [List.map_take]⟩
theorem maps_Keys_map_int_bool_int_bool_fn : FnKeys Try.prog 60 (.fn 70 []) := keys_fnk Try.keys60 Try.call60
theorem slices_Sorted_int_fn_70 {ks rs : List Int} (h : sortedK ks = some rs) : FnSKeys False Try.prog 55 70 (ks.map fun k => [.v (.int .i64 k)]) (.ow 1 (List.map (encI .i64) rs)) :=
  skeys_fnk Try.keys60 Try.sorted55 ⟨fun blk off cap ss W hH hblk hsz => callsIn_wide.2 (AnyM.slices_Sort_int Try.sortK blk off cap ss W hH hblk hsz), fun p cap W => callsIn_wide.2 (AnyM.slices_Sort_int_none Try.sortK p cap W)⟩ Try.call55 Try.call66 Try.call70 h
theorem slices_Sorted_int_fn_67 {ks rs : List Int} (h : sortedK ks = some rs) : FnSKeys False Try.prog 55 67 (ks.map fun k => [.v (.int .i64 k)]) (.ow 1 (List.map (encI .i64) rs)) :=
  skeys_fnk Try.keys56 Try.sorted55 ⟨fun blk off cap ss W hH hblk hsz => callsIn_wide.2 (AnyM.slices_Sort_int Try.sortK blk off cap ss W hH hblk hsz), fun p cap W => callsIn_wide.2 (AnyM.slices_Sort_int_none Try.sortK p cap W)⟩ Try.call55 Try.call66 Try.call67 h
noncomputable def graph_Graph_Down_L1 (g_ : graph_Graph) (s3 : Nat × (List (Int × Bool)) × (List Int)) : Option ((Nat × (List (Int × Bool)) × (List Int)) ⊕ (((List (Int × Bool))) ⊕ ((List Int)))) :=
  (bif (decide ((0 : Int) < ((s3.1 : Nat) : Int))) then
    (chkO (decide (0 ≤ (IntKind.i64.wrap (((s3.1 : Nat) : Int) - (1 : Int)))) && decide ((IntKind.i64.wrap (((s3.1 : Nat) : Int) - (1 : Int))) < ((s3.1 : Nat) : Int)))).bind fun _ =>
    (getI s3.2.2 (((0 + (IntKind.i64.wrap (((s3.1 : Nat) : Int) - (1 : Int))).toNat) : Nat) : Int)).bind fun x24 =>
    (chkO (cutO (0 : Int) (IntKind.i64.wrap (((s3.1 : Nat) : Int) - (1 : Int))) ((s3.1 : Nat) : Int))).bind fun _ =>
    (bif (!(mgetT x24 s3.2.1 false)) then
      (chkO (decide (((IntKind.i64.wrap (((s3.1 : Nat) : Int) - (1 : Int))) - (0 : Int)).toNat + (mgetT x24 g_.nodes (graph_entry.mk ([] : List Int) (0 : Int))).parents.length ≤ 1000000))).bind fun _ =>
      some (.inl ((((IntKind.i64.wrap (((s3.1 : Nat) : Int) - (1 : Int))) - (0 : Int)).toNat + (mgetT x24 g_.nodes (graph_entry.mk ([] : List Int) (0 : Int))).parents.length), (mputT x24 true s3.2.1), (List.take ((IntKind.i64.wrap (((s3.1 : Nat) : Int) - (1 : Int))) - (0 : Int)).toNat s3.2.2 ++ (mgetT x24 g_.nodes (graph_entry.mk ([] : List Int) (0 : Int))).parents)))
    else
      some (.inl (((IntKind.i64.wrap (((s3.1 : Nat) : Int) - (1 : Int))) - (0 : Int)).toNat, s3.2.1, s3.2.2)))
  else
    some (.inr (.inl s3.2.1)))
noncomputable def graph_Graph_Down (g_ : graph_Graph) (ids_ : (List Int)) : Option ((List Int)) :=
  (slices_Clone_int_int ids_).bind fun y1 =>
  (slices_DeleteFunc_int_int y1 (fun a0 => graph_Graph_Down_1 a0 g_)).bind fun y2 =>
  (seqF (A := (List (Int × Bool))) (
    loopF (graph_Graph_Down_L1 g_) (y2.length, ([] : List (Int × Bool)), y2))
  fun s2 =>
    (sortedK (List.map Prod.fst s2)).bind fun y27 =>
    some y27)
theorem graph_Graph_Down_fn {g_ : graph_Graph} {ids_ : (List Int)} {r : (List Int)} (h : graph_Graph_Down g_ ids_ = some r) : Fn False Try.prog 38 [.fp [.mz (.i .i64) (mapE (Value.int .i64) (fun x => D.ag (graph_entry.enc x)) g_.nodes)], VF (List.map (encI .i64) ids_)] (.ow 1 (List.map (encI .i64) r)) := by
  refine Fn.of_AW (dr := False) (F := FnX False Try.prog) (base := 0) (js := [9]) mixed tok noeqs (fun _ _ _ h => h) Try.call38 Try.func38 rfl Try.ntmps38 (by rw [Try.results38]) (by simp) ?_; have hG : (fun x => x = r) r := rfl; unfold graph_Graph_Down at h; refine Zap 2 rfl ?_; refine Zm (.lp 2 1 0) (Mem.add _ 2 (.box [.fp [.mz (.i .i64) (mapE (Value.int .i64) (fun x => D.ag (graph_entry.enc x)) g_.nodes)]])) rfl rfl ?_; refine Zm (.row 4 1 0) (Mem.add _ 4 (.rows 1 (List.map (encI .i64) ([] : List Int)) false)) rfl rfl ?_; refine Zpp 4 rfl ?_; refine Zm (.mp 8 1) (Mem.add _ 8 (.mapi (.i .i64) (mapE (Value.int .i64) vB ([] : List (Int × Bool))))) rfl rfl ?_; refine Zo (.mp 8 1) rfl rfl ?_; refine Zpp 5 rfl ?_; refine Y1 rfl ?_; refine bindK h fun y1 hy1 h => ?_; refine W.call rfl (slices_Clone_int_int_fn hy1) ?_; refine W.v (.row 10 1 (List.map (encI .i64) y1).length) (.row 10 1 y1.length) (Mem.add _ 10 (.rows 1 (List.map (encI .i64) y1) false)) rfl (by simp only [List.length_map]) ?_; refine Zo (.fn 59 [.lp 2 1 0]) rfl rfl ?_; refine Y1 rfl ?_; refine bindK h fun y2 hy2 h => ?_; refine W.call rfl (slices_DeleteFunc_int_int_fn (del_F := 59) (del_C := [.fp [.pz [.mz (.i .i64) (mapE (Value.int .i64) (fun x => D.ag (graph_entry.enc x)) g_.nodes)]]]) rfl (fun _ _ h => graph_Graph_Down_1_fn h) hy2) ?_; refine W.chk rfl (Plain.map encI_plain _) ?_; refine W.rows (List.map (encI .i64) y2).length y2.length ((List.map (encI .i64) y2) ++ []) (List.map (encI .i64) y2) rfl (by first | rfl | (simp; done) | simp only [partMap, List.length_map, List.length_append, List.nil_append, Nat.zero_add, List.length_nil]) (by first | rfl | (simp; done) | simp only [partMap, List.map_append, List.nil_append, List.map_nil]) ?_; refine Zo (.row 10 2 y2.length) rfl rfl ?_; refine Zpc 2 rfl ?_; refine A.join (fun (s2 : (List (Int × Bool))) => [(5, .mp 900000 1)]) (fun s2 => [(900000, .mapi (.i .i64) (mapE (Value.int .i64) vB s2))]) _ h hG rfl ?_ ?_
  · intro J f h hG; refine Zac 1 rfl ?_; refine A.loop (fun (s3 : Nat × (List (Int × Bool)) × (List Int)) => [(2, .lp 900000 1 0), (5, .mp 900001 1), (6, .sub 900002 1 0 s3.1)]) (fun s3 => [(900000, .box [.fp [.mz (.i .i64) (mapE (Value.int .i64) (fun x => D.ag (graph_entry.enc x)) g_.nodes)]]), (900001, .mapi (.i .i64) (mapE (Value.int .i64) vB s3.2.1)), (900002, .rows 1 (List.map (encI .i64) s3.2.2) false)]) _ h hG (Zf [] [(900000, (2, 1)), (900001, (8, 1)), (900002, (10, 2))] rfl rfl (Ze rfl rfl (Ze rfl rfl (Ze rfl rfl trivial))) (Zc rfl rfl (Zc rfl rfl (Zc rfl rfl trivial)))) ?_; intro J s3 f h hG; unfold graph_Graph_Down_L1 at h; refine Zap 3 rfl ?_; refine Zo (.sub 900002 1 0 s3.1) rfl rfl ?_; refine Zpc 4 rfl ?_; refine A.condB rfl h (fun _ h => ?_) (fun _ h => ?_)
    · refine Zcp 5 rfl ?_; refine Zo (.sub 900002 1 0 s3.1) rfl rfl ?_; refine Zo (.sub 900002 1 0 s3.1) rfl rfl ?_; refine Zpp 2 rfl ?_; refine Y1 rfl ?_; refine chkK h fun g23 h => ?_; refine W.chk rfl (by simpa using g23) ?_; refine W.det (.rp 900002 1 (0 + (IntKind.i64.wrap (((s3.1 : Nat) : Int) - (1 : Int))).toNat) 0) _ rfl ?_; refine Y1 rfl ?_; refine bindK h fun x24 hx24 h => ?_; refine W.elem rfl (elemG hx24) ?_; refine Zwp 6 rfl ?_; refine Zo (.sub 900002 1 0 s3.1) rfl rfl ?_; refine Zo (.sub 900002 1 0 s3.1) rfl rfl ?_; refine Zpp 2 rfl ?_; refine Y1 rfl ?_; refine chkK h fun g25 h => ?_; refine W.chk rfl (cutO_all g25) ?_; refine W.det (.sub 900002 1 0 ((IntKind.i64.wrap (((s3.1 : Nat) : Int) - (1 : Int))) - (0 : Int)).toNat) _ rfl ?_; refine Zo (.sub 900002 1 0 ((IntKind.i64.wrap (((s3.1 : Nat) : Int) - (1 : Int))) - (0 : Int)).toNat) rfl rfl ?_; refine Zpp 4 rfl ?_; refine Zo (.mp 900001 1) rfl rfl ?_; refine Zpp 1 rfl ?_; refine Y1 rfl ?_; refine W.look (Value.int .i64) vB x24 s3.2.1 false (fun _ _ => rfl) rfl ?_; refine Zpc 3 rfl ?_; refine A.condB rfl h (fun _ h => ?_) (fun _ h => ?_)
      · refine Zcp 2 rfl ?_; refine Zo (.mp 900001 1) rfl rfl ?_; refine Zpp 1 rfl ?_; refine Y1 rfl ?_; refine W.mput (Value.int .i64) vB x24 true s3.2.1 (fun _ _ => rfl) rfl ?_; refine Zpp 3 rfl ?_; refine Zo (.sub 900002 1 0 ((IntKind.i64.wrap (((s3.1 : Nat) : Int) - (1 : Int))) - (0 : Int)).toNat) rfl rfl ?_; refine Zo (.fp [.mz (.i .i64) (mapE (Value.int .i64) (fun x => D.ag (graph_entry.enc x)) g_.nodes)]) rfl rfl ?_; refine Zo (.fp [.mz (.i .i64) (mapE (Value.int .i64) (fun x => D.ag (graph_entry.enc x)) g_.nodes)]) rfl rfl ?_; refine Zo (.fp [.mz (.i .i64) (mapE (Value.int .i64) (fun x => D.ag (graph_entry.enc x)) g_.nodes)]) rfl rfl ?_; refine Zo (.d (.mz (.i .i64) (mapE (Value.int .i64) (fun x => D.ag (graph_entry.enc x)) g_.nodes))) rfl rfl ?_; refine Zpp 1 rfl ?_; refine Y1 rfl ?_; refine W.look (Value.int .i64) (fun x => D.ag (graph_entry.enc x)) x24 g_.nodes (graph_entry.mk ([] : List Int) (0 : Int)) (fun _ _ => rfl) rfl ?_; refine Zpp 1 rfl ?_; refine Y1 rfl ?_; refine chkK h fun g26 h => ?_; refine W.chk rfl (appChk (fun _ => rfl) g26) ?_; refine W.srows (((IntKind.i64.wrap (((s3.1 : Nat) : Int) - (1 : Int))) - (0 : Int)).toNat + (List.map (encI .i64) (mgetT x24 g_.nodes (graph_entry.mk ([] : List Int) (0 : Int))).parents).length) (((IntKind.i64.wrap (((s3.1 : Nat) : Int) - (1 : Int))) - (0 : Int)).toNat + (mgetT x24 g_.nodes (graph_entry.mk ([] : List Int) (0 : Int))).parents.length) (List.take ((IntKind.i64.wrap (((s3.1 : Nat) : Int) - (1 : Int))) - (0 : Int)).toNat (List.map (encI .i64) s3.2.2) ++ (List.map (encI .i64) (mgetT x24 g_.nodes (graph_entry.mk ([] : List Int) (0 : Int))).parents)) (List.map (encI .i64) (List.take ((IntKind.i64.wrap (((s3.1 : Nat) : Int) - (1 : Int))) - (0 : Int)).toNat s3.2.2 ++ (mgetT x24 g_.nodes (graph_entry.mk ([] : List Int) (0 : Int))).parents)) rfl (by simp only [List.length_map]) (by simp only [List.map_append, List.map_take]) ?_; refine Zo (.sub 900002 2 0 (((IntKind.i64.wrap (((s3.1 : Nat) : Int) - (1 : Int))) - (0 : Int)).toNat + (mgetT x24 g_.nodes (graph_entry.mk ([] : List Int) (0 : Int))).parents.length)) rfl rfl ?_; refine Zpb 2 rfl ?_; cases h; exact Zh hG [] [(900000, (900000, 1)), (900001, (900001, 1)), (900002, (900002, 2))] rfl rfl (Ze rfl rfl (Ze rfl rfl (Ze rfl rfl trivial))) (Zc rfl rfl (Zc rfl rfl (Zc rfl rfl trivial)))
      · refine Zcb 2 rfl ?_; cases h; exact Zh hG [] [(900000, (900000, 1)), (900001, (900001, 1)), (900002, (900002, 1))] rfl rfl (Ze rfl rfl (Ze rfl rfl (Ze rfl rfl trivial))) (Zc rfl rfl (Zc rfl rfl (Zc rfl rfl trivial)))
    · refine Zcb 2 rfl ?_; refine headK.e ?_; refine Zob 1 rfl ?_; cases h; exact Zh hG [] [(900000, (900001, 1))] rfl rfl (Ze rfl rfl trivial) (Zc rfl rfl trivial)
  · intro s2 r2 h hG; refine Zcp 2 rfl ?_; refine Zo (.mp 900000 1) rfl rfl ?_; refine Y1 rfl ?_; refine W.call rfl maps_Keys_map_int_bool_int_bool_fn ?_; refine W.det (.fn 70 [.lp 43 2 0]) (Mem.add _ 43 (.box [.mp 900000 1])) rfl ?_; refine Y1 rfl ?_; refine bindK h fun y27 hy27 h => ?_; refine W.call rfl (fnx_skeys (slices_Sorted_int_fn_70 hy27)) ?_; refine W.v (.row 44 2 (List.map (encI .i64) y27).length) (.row 44 2 y27.length) (Mem.add _ 44 (.rows 1 (List.map (encI .i64) y27) false)) rfl (by simp only [List.length_map]) ?_; refine Zo (.row 44 2 y27.length) rfl rfl ?_; refine Zpb 3 rfl ?_; cases h; cases hG; exact ⟨rfl, rfl, trivial⟩
noncomputable def graph_Graph_Past (g_ : graph_Graph) (id_ : Int) : Option ((List Int)) :=
  (graph_Graph_Down g_ (mgetT id_ g_.nodes (graph_entry.mk ([] : List Int) (0 : Int))).parents).bind fun y1 =>
  some y1
theorem graph_Graph_Past_fn {g_ : graph_Graph} {id_ : Int} {r : (List Int)} (h : graph_Graph_Past g_ id_ = some r) : Fn False Try.prog 28 [.fp [.mz (.i .i64) (mapE (Value.int .i64) (fun x => D.ag (graph_entry.enc x)) g_.nodes)], VI id_] (.ow 1 (List.map (encI .i64) r)) := by
  refine Fn.of_AW (dr := False) (F := FnX False Try.prog) (base := 0) (js := []) mixed tok noeqs (fun _ _ _ h => h) Try.call28 Try.func28 rfl Try.ntmps28 (by rw [Try.results28]) (by simp) ?_; have hG : (fun x => x = r) r := rfl; unfold graph_Graph_Past at h; refine Zap 2 rfl ?_; refine Zm (.row 4 1 0) (Mem.add _ 4 (.rows 1 (List.map (encI .i64) ([] : List Int)) false)) rfl rfl ?_; refine Zpp 4 rfl ?_; refine Zo (.fp [.mz (.i .i64) (mapE (Value.int .i64) (fun x => D.ag (graph_entry.enc x)) g_.nodes)]) rfl rfl ?_; refine Zo (.fp [.mz (.i .i64) (mapE (Value.int .i64) (fun x => D.ag (graph_entry.enc x)) g_.nodes)]) rfl rfl ?_; refine Zo (.fp [.mz (.i .i64) (mapE (Value.int .i64) (fun x => D.ag (graph_entry.enc x)) g_.nodes)]) rfl rfl ?_; refine Zo (.fp [.mz (.i .i64) (mapE (Value.int .i64) (fun x => D.ag (graph_entry.enc x)) g_.nodes)]) rfl rfl ?_; refine Zo (.d (.mz (.i .i64) (mapE (Value.int .i64) (fun x => D.ag (graph_entry.enc x)) g_.nodes))) rfl rfl ?_; refine Zpp 1 rfl ?_; refine Y1 rfl ?_; refine W.look (Value.int .i64) (fun x => D.ag (graph_entry.enc x)) id_ g_.nodes (graph_entry.mk ([] : List Int) (0 : Int)) (fun _ _ => rfl) rfl ?_; refine Zpp 1 rfl ?_; refine Y1 rfl ?_; refine bindK h fun y1 hy1 h => ?_; refine W.call rfl (Fn.toO (graph_Graph_Down_fn hy1) (PlainR.ints _) rfl) ?_; refine W.v (.row 13 1 (List.map (encI .i64) y1).length) (.row 13 1 y1.length) (Mem.add _ 13 (.rows 1 (List.map (encI .i64) y1) false)) rfl (by simp only [List.length_map]) ?_; refine Zo (.row 13 1 y1.length) rfl rfl ?_; refine Zpb 3 rfl ?_; cases h; cases hG; exact ⟨rfl, rfl, trivial⟩
noncomputable def ref07_Same_L1 (a_ : (List Int)) (b_ : (List Int)) (s3 : Int) : Option ((Int) ⊕ ((Unit) ⊕ (Bool))) :=
  (bif (decide (s3 < (a_.length : Int))) then
    (getI a_ s3).bind fun x23 =>
    (getI b_ s3).bind fun x24 =>
    (bif (x23 != x24) then
      some (.inr (.inr false))
    else
      some (.inl (IntKind.i64.wrap (s3 + (1 : Int)))))
  else
    some (.inr (.inl ())))
noncomputable def ref07_Same (a_ : (List Int)) (b_ : (List Int)) : Option (Bool) :=
  (bif ((a_.length : Int) != (b_.length : Int)) then
    some false
  else
    (seqF (A := Unit) (
      loopF (ref07_Same_L1 a_ b_) (0 : Int))
    fun s2 =>
      some true))
theorem ref07_Same_fn {dr : Prop} {a_ : (List Int)} {b_ : (List Int)} {r : Bool} (h : ref07_Same a_ b_ = some r) : Fn dr Try.prog 20 [VF (List.map (encI .i64) a_), VF (List.map (encI .i64) b_)] (VB r) := by
  refine Fn.of_AW (dr := dr) (F := FnX dr Try.prog) (base := 0) (js := [8]) mixed tok noeqs (fun _ _ _ h => h) Try.call20 Try.func20 rfl Try.ntmps20 (by rw [Try.results20]) (by simp) ?_; have hG : (fun x => x = r) r := rfl; unfold ref07_Same at h; refine Zap 9 rfl ?_; refine Y1 rfl ?_; refine W.len rfl ?_; refine Zpp 1 rfl ?_; refine Y1 rfl ?_; refine W.len rfl ?_; refine Zpc 3 rfl ?_; refine A.condB rfl h (fun _ h => ?_) (fun _ h => ?_)
  · refine Zcb 7 rfl ?_; cases h; cases hG; exact ⟨rfl, trivial⟩
  · refine Zcc 2 rfl ?_; refine A.join (fun (s2 : Unit) => []) (fun s2 => []) _ h hG rfl ?_ ?_
    · intro J f h hG; refine Zac 6 rfl ?_; refine A.loop (fun (s3 : Int) => [(0, VF (List.map (encI .i64) a_)), (1, VF (List.map (encI .i64) b_)), (5, VI s3)]) (fun s3 => []) _ h hG (Zf [] [] rfl rfl (Ze rfl rfl (Ze rfl rfl (Ze rfl rfl trivial))) trivial) ?_; intro J s3 f h hG; unfold ref07_Same_L1 at h; refine Zap 5 rfl ?_; refine Y1 rfl ?_; refine W.len rfl ?_; refine Zpc 3 rfl ?_; refine A.condB rfl h (fun _ h => ?_) (fun _ h => ?_)
      · refine Zcc 5 rfl ?_; refine A.regionD (by kernel_rfl) ?_; refine Zpp 2 rfl ?_; refine Y1 rfl ?_; refine bindK h fun x23 hx23 h => ?_; refine W.chk rfl (elemB hx23) ?_; refine W.elem rfl (elemG hx23) ?_; refine W.chk rfl rfl ?_; refine W.det (.fp [.v (.int .i64 x23)]) _ rfl ?_; refine Zpp 3 rfl ?_; refine Y1 rfl ?_; refine bindK h fun x24 hx24 h => ?_; refine W.chk rfl (elemB hx24) ?_; refine W.elem rfl (elemG hx24) ?_; refine W.chk rfl rfl ?_; refine W.det (.fp [.v (.int .i64 x24)]) _ rfl ?_; refine Zpc 4 rfl ?_; refine A.condB rfl h (fun _ h => ?_) (fun _ h => ?_)
        · refine Zcb 8 rfl ?_; refine headK.r ?_; refine Zob 1 rfl ?_; refine headK.r ?_; cases h; cases hG; exact ⟨rfl, trivial⟩
        · refine Zcb 8 rfl ?_; cases h; exact Zh hG [] [] rfl rfl (Ze rfl rfl (Ze rfl rfl (Ze rfl rfl trivial))) trivial
      · refine Zcb 2 rfl ?_; refine headK.e ?_; refine Zob 1 rfl ?_; cases h; exact Zh hG [] [] rfl rfl trivial trivial
    · intro s2 r2 h hG; refine Zcb 6 rfl ?_; cases h; cases hG; exact ⟨rfl, trivial⟩
theorem maps_Keys_map_int_graph_entry_int_graph_entry_fn : FnKeys Try.prog 56 (.fn 67 []) := keys_fnk Try.keys56 Try.call56
noncomputable def graph_Graph_Heads_1 (id_ : Int) (c0_ : (List (Int × Bool))) : Option (Bool) :=
  some (mgetT id_ c0_ false)
theorem graph_Graph_Heads_1_fn {dr : Prop} {id_ : Int} {c0_ : (List (Int × Bool))} {r : Bool} (h : graph_Graph_Heads_1 id_ c0_ = some r) : Fn dr Try.prog 57 [VI id_, .fp [.mz (.i .i64) (mapE (Value.int .i64) vB c0_)]] (VB r) := by
  refine Fn.of_AW (dr := dr) (F := FnX dr Try.prog) (base := 0) (js := []) mixed tok noeqs (fun _ _ _ h => h) Try.call57 Try.func57 rfl Try.ntmps57 (by rw [Try.results57]) (by simp) ?_; have hG : (fun x => x = r) r := rfl; unfold graph_Graph_Heads_1 at h; refine Zap 7 rfl ?_; refine Zo (.d (.mz (.i .i64) (mapE (Value.int .i64) vB c0_))) rfl rfl ?_; refine Zpp 1 rfl ?_; refine Y1 rfl ?_; refine W.look (Value.int .i64) vB id_ c0_ false (fun _ _ => rfl) rfl ?_; refine Zpb 4 rfl ?_; cases h; cases hG; exact ⟨rfl, trivial⟩
noncomputable def graph_Graph_Heads_L1 (q1 : (Int × graph_entry)) (s4 : Int × (List (Int × Bool))) : Option ((Int × (List (Int × Bool))) ⊕ (((List (Int × Bool))) ⊕ ((List Int)))) :=
  (bif (decide (s4.1 < (q1.2.parents.length : Int))) then
    (getI q1.2.parents s4.1).bind fun x19 =>
    some (.inl ((IntKind.i64.wrap (s4.1 + (1 : Int))), (mputT x19 true s4.2)))
  else
    some (.inr (.inl s4.2)))
noncomputable def graph_Graph_Heads_R2d (g_ : graph_Graph) (s1 : (List (Int × Bool))) : Option ((List Int)) :=
  (sortedK (List.map Prod.fst g_.nodes)).bind fun y20 =>
  (slices_DeleteFunc_int_int y20 (fun a0 => graph_Graph_Heads_1 a0 s1)).bind fun y21 =>
  some y21
noncomputable def graph_Graph_Heads_R2b (s1 : (List (Int × Bool))) (q1 : (Int × graph_entry)) : Option (((List (Int × Bool))) ⊕ ((List Int))) :=
  loopF (graph_Graph_Heads_L1 q1) ((0 : Int), s1)
noncomputable def graph_Graph_Heads (g_ : graph_Graph) : Option ((List Int)) :=
  permO g_.nodes fun l_ => rangeF (graph_Graph_Heads_R2d g_) (graph_Graph_Heads_R2b) l_ ([] : List (Int × Bool))
theorem graph_Graph_Heads_fn {g_ : graph_Graph} {r : (List Int)} (h : graph_Graph_Heads g_ = some r) : Fn False Try.prog 24 [.fp [.mz (.i .i64) (mapE (Value.int .i64) (fun x => D.ag (graph_entry.enc x)) g_.nodes)]] (.ow 1 (List.map (encI .i64) r)) := by
  refine Fn.of_AX (dr := False) tok Try.call24 Try.func24 rfl Try.ntmps24 (by rw [Try.results24]) (by simp) ?_
  have hG : (fun x => x = r) r := rfl
  unfold graph_Graph_Heads at h
  refine AX.seq ?_
  refine AX.aw (base := 0) (js := []) (F := FnX False Try.prog) mixed tok noeqs (fun _ _ _ h => h) ?_
  refine A.region ?_
  refine R.one rfl ?_
  refine W.det (.row 2 1 0) (Mem.add _ 2 (.rows 1 (List.map (encI .i64) ([] : List Int)) false)) rfl ?_
  refine R.nil ?_
  refine seqK.n ?_
  refine AX.seq ?_
  refine AX.aw (base := 0) (js := []) (F := FnX False Try.prog) mixed tok noeqs (fun _ _ _ h => h) ?_
  refine A.region ?_
  refine R.one rfl ?_
  refine W.det (.mp 8 1) (Mem.add _ 8 (.mapi (.i .i64) (mapE (Value.int .i64) vB ([] : List (Int × Bool))))) rfl ?_
  refine R.one rfl ?_
  refine W.det (.lp 3 1 0) (Mem.add _ 3 (.box [.d (.v (.map none))])) rfl ?_
  refine R.one rfl ?_
  refine W.det (.tup []) (Mem.set _ 3 1 (some (.box [.mp 8 1]))) rfl ?_
  refine R.nil ?_
  refine seqK.n ?_
  refine AX.seq ?_
  refine AX.range (base := 0) (F := FnX False Try.prog) (js := []) (kt := 3) (et := 60) mixed tok noeqs (fun _ _ _ h => h) rfl rfl rfl rfl (by decide) rfl rfl rfl rfl (by decide) rfl rfl rfl (by decide) rfl rfl rfl (by decide) (by decide) ?_
  refine R.one rfl ?_
  refine W.det (.fp [.mz (.i .i64) (mapE (Value.int .i64) (fun x => D.ag (graph_entry.enc x)) g_.nodes)]) _ rfl ?_
  refine R.one rfl ?_
  refine W.det (.fp [.mz (.i .i64) (mapE (Value.int .i64) (fun x => D.ag (graph_entry.enc x)) g_.nodes)]) _ rfl ?_
  refine R.one rfl ?_
  refine W.det (.fp [.mz (.i .i64) (mapE (Value.int .i64) (fun x => D.ag (graph_entry.enc x)) g_.nodes)]) _ rfl ?_
  refine R.one rfl ?_
  refine W.det (.d (.mz (.i .i64) (mapE (Value.int .i64) (fun x => D.ag (graph_entry.enc x)) g_.nodes))) _ rfl ?_
  refine R.nil ?_
  refine X.range (fun r_ (s1 : (List (Int × Bool))) => [(0, .fp [.mz (.i .i64) (mapE (Value.int .i64) (fun x => D.ag (graph_entry.enc x)) g_.nodes)]), (3, .lp 900000 1 0), (13, ptrV r_)]) (fun s1 => [(900000, .box [.mp 900001 1]), (900001, .mapi (.i .i64) (mapE (Value.int .i64) vB s1))]) _ h hG rfl (fun r_ => Enters.of [] [(900000, (3, 1)), (900001, (8, 1))] _ rfl rfl (chkE.c rfl rfl (chkE.c rfl rfl (chkE.c rfl rfl trivial))) (chkM.c rfl rfl (chkM.c rfl rfl trivial))) (fun _ _ => ⟨rfl, rfl⟩) ?_ ?_
  · intro r_ s1 f h hG
    unfold graph_Graph_Heads_R2d at h
    refine seqK.n ?_
    refine AX.aw (base := 0) (js := []) (F := FnX False Try.prog) mixed tok noeqs (fun _ _ _ h => h) ?_
    refine A.seq rfl ?_
    refine A.region ?_
    refine R.one rfl ?_
    refine W.det (.fp [.mz (.i .i64) (mapE (Value.int .i64) (fun x => D.ag (graph_entry.enc x)) g_.nodes)]) _ rfl ?_
    refine R.one rfl ?_
    refine W.det (.fp [.mz (.i .i64) (mapE (Value.int .i64) (fun x => D.ag (graph_entry.enc x)) g_.nodes)]) _ rfl ?_
    refine R.one rfl ?_
    refine W.det (.fp [.mz (.i .i64) (mapE (Value.int .i64) (fun x => D.ag (graph_entry.enc x)) g_.nodes)]) _ rfl ?_
    refine R.one rfl ?_
    refine W.det (.d (.mz (.i .i64) (mapE (Value.int .i64) (fun x => D.ag (graph_entry.enc x)) g_.nodes))) _ rfl ?_
    refine R.one rfl ?_
    refine W.call rfl maps_Keys_map_int_graph_entry_int_graph_entry_fn ?_
    refine W.det (.fn 67 [.lp 32 2 0]) (Mem.add _ 32 (.box [.d (.mz (.i .i64) (mapE (Value.int .i64) (fun x => D.ag (graph_entry.enc x)) g_.nodes))])) rfl ?_
    refine R.one rfl ?_
    refine bindK h fun y20 hy20 h => ?_
    refine W.call rfl (fnx_skeys (slices_Sorted_int_fn_67 hy20)) ?_
    refine W.v (.row 33 2 (List.map (encI .i64) y20).length) (.row 33 2 y20.length) (Mem.add _ 33 (.rows 1 (List.map (encI .i64) y20) false)) rfl (by simp only [List.length_map]) ?_
    refine R.one rfl ?_
    refine W.det (.fn 57 [.lp 900000 1 0]) _ rfl ?_
    refine R.one rfl ?_
    refine bindK h fun y21 hy21 h => ?_
    refine W.call rfl (slices_DeleteFunc_int_int_fn (del_F := 57) (del_C := [.fp [.mz (.i .i64) (mapE (Value.int .i64) vB s1)]]) rfl (fun _ _ h => graph_Graph_Heads_1_fn h) hy21) ?_
    refine W.chk rfl (Plain.map encI_plain _) ?_
    refine W.rows (List.map (encI .i64) y21).length y21.length ((List.map (encI .i64) y21) ++ []) (List.map (encI .i64) y21) rfl (by first | rfl | (simp; done) | simp only [partMap, List.length_map, List.length_append, List.nil_append, Nat.zero_add, List.length_nil]) (by first | rfl | (simp; done) | simp only [partMap, List.map_append, List.nil_append, List.map_nil]) ?_
    refine R.one rfl ?_
    refine W.det (.row 33 3 y21.length) _ rfl ?_
    refine R.nil ?_
    refine seqK.n ?_
    refine A.ret ?_
    injection h with h
    subst h
    cases hG
    exact ⟨rfl, rfl, trivial⟩
  · intro r_ J s1 q1 f h hG
    unfold graph_Graph_Heads_R2b at h
    refine R.one rfl ?_
    refine W.det (.agg [.d (.fz (List.map (encI .i64) q1.2.parents)), .d (.v (.int .i64 q1.2.level))]) _ rfl ?_
    refine R.one rfl ?_
    refine W.det (.lp 5 2 0) (Mem.add (Mem.add _ 65541 (.rows 1 (List.map (encI .i64) ([] : List Int)) false)) 5 (.box [.row 65541 2 0, .d (.v (.int .i64 (0 : Int)))])) rfl ?_
    refine R.one rfl ?_
    refine W.det (.tup []) (Mem.set _ 5 2 (some (.box [.d (.fz (List.map (encI .i64) q1.2.parents)), .d (.v (.int .i64 q1.2.level))]))) rfl ?_
    refine R.nil ?_
    refine A.seq rfl ?_
    refine A.region ?_
    refine R.one rfl ?_
    refine W.det (.lp 5 2 0) _ rfl ?_
    refine R.one rfl ?_
    refine W.det (.d (.fz (List.map (encI .i64) q1.2.parents))) _ rfl ?_
    refine R.one rfl ?_
    refine W.len rfl ?_
    refine R.one rfl ?_
    refine W.det (.d (.v (.int .i64 (0 : Int)))) _ rfl ?_
    refine R.nil ?_
    refine seqK.n ?_
    refine A.block ?_
    refine A.loop (fun (s4 : Int × (List (Int × Bool))) => [(0, .fp [.mz (.i .i64) (mapE (Value.int .i64) (fun x => D.ag (graph_entry.enc x)) g_.nodes)]), (3, .lp 900000 1 0), (13, ptrV r_), (19, .d (.fz (List.map (encI .i64) q1.2.parents))), (20, .d (.v (.int .i64 (q1.2.parents.length : Int)))), (21, .d (.v (.int .i64 s4.1)))]) (fun s4 => [(900000, .box [.mp 900001 1]), (900001, .mapi (.i .i64) (mapE (Value.int .i64) vB s4.2))]) _ h hG (Enters.of [] [(900000, (900000, 1)), (900001, (900001, 1))] _ rfl rfl (chkE.c rfl rfl (chkE.c rfl rfl (chkE.c rfl rfl (chkE.c rfl rfl (chkE.c rfl rfl (chkE.c rfl rfl trivial)))))) (chkM.c rfl rfl (chkM.c rfl rfl trivial))) ?_
    intro J s4 f h hG
    unfold graph_Graph_Heads_L1 at h
    refine A.seq rfl ?_
    refine A.region ?_
    refine R.one rfl ?_
    refine W.det (.d (.v (.bool (decide (s4.1 < (q1.2.parents.length : Int)))))) _ rfl ?_
    refine R.nil ?_
    refine seqK.n ?_
    refine A.seq rfl ?_
    refine A.condB rfl h (fun _ h => ?_) (fun _ h => ?_)
    · refine A.skip ?_
      refine seqK.n ?_
      refine A.seq rfl ?_
      refine A.block ?_
      refine A.seq rfl ?_
      refine A.region ?_
      refine R.one rfl ?_
      refine bindK h fun x19 hx19 h => ?_
      refine W.chk rfl (elemB hx19) ?_
      refine W.elem rfl (elemG hx19) ?_
      refine W.chk rfl rfl ?_
      refine W.det (.fp [.v (.int .i64 x19)]) _ rfl ?_
      refine R.one rfl ?_
      refine W.det (.d (.v (.int .i64 x19))) _ rfl ?_
      refine R.one rfl ?_
      refine W.det (.d (.v (.int .i64 x19))) _ rfl ?_
      refine R.nil ?_
      refine seqK.n ?_
      refine A.region ?_
      refine R.one rfl ?_
      refine W.det (.mp 900001 1) _ rfl ?_
      refine R.one rfl ?_
      refine W.det (.d (.v (.int .i64 x19))) _ rfl ?_
      refine R.one rfl ?_
      refine W.mput (Value.int .i64) vB x19 true s4.2 (fun _ _ => rfl) rfl ?_
      refine R.nil ?_
      refine blockK.n ?_
      refine seqK.n ?_
      refine A.region ?_
      refine R.one rfl ?_
      refine W.det (.d (.v (.int .i64 (IntKind.i64.wrap (s4.1 + (1 : Int)))))) _ rfl ?_
      refine R.one rfl ?_
      refine W.det (.d (.v (.int .i64 (IntKind.i64.wrap (s4.1 + (1 : Int)))))) _ rfl ?_
      refine R.nil ?_
      injection h with h
      subst h
      exact headK.n hG (Enters.of [] [(900000, (900000, 1)), (900001, (900001, 1))] _ rfl rfl (chkE.c rfl rfl (chkE.c rfl rfl (chkE.c rfl rfl (chkE.c rfl rfl (chkE.c rfl rfl (chkE.c rfl rfl trivial)))))) (chkM.c rfl rfl (chkM.c rfl rfl trivial)))
    · refine A.exit ?_
      refine seqK.e ?_
      refine headK.e ?_
      refine blockK.x ?_
      injection h with h
      subst h
      exact rangeK.n hG (Enters.of [] [(900000, (900000, 1)), (900001, (900001, 1))] _ rfl rfl (chkE.c rfl rfl (chkE.c rfl rfl (chkE.c rfl rfl trivial))) (chkM.c rfl rfl (chkM.c rfl rfl trivial)))
noncomputable def graph_Graph_Level (g_ : graph_Graph) (id_ : Int) : Option (Int) :=
  (bif (mhasT id_ g_.nodes) then
    some (mgetT id_ g_.nodes (graph_entry.mk ([] : List Int) (0 : Int))).level
  else
    some (-1 : Int))
theorem graph_Graph_Level_fn {dr : Prop} {g_ : graph_Graph} {id_ : Int} {r : Int} (h : graph_Graph_Level g_ id_ = some r) : Fn dr Try.prog 25 [.fp [.mz (.i .i64) (mapE (Value.int .i64) (fun x => D.ag (graph_entry.enc x)) g_.nodes)], VI id_] (VI r) := by
  refine Fn.of_AW (dr := dr) (F := FnX dr Try.prog) (base := 0) (js := []) mixed tok noeqs (fun _ _ _ h => h) Try.call25 Try.func25 rfl Try.ntmps25 (by rw [Try.results25]) (by simp) ?_; have hG : (fun x => x = r) r := rfl; unfold graph_Graph_Level at h; refine Zap 8 rfl ?_; refine Zo (.fp [.mz (.i .i64) (mapE (Value.int .i64) (fun x => D.ag (graph_entry.enc x)) g_.nodes)]) rfl rfl ?_; refine Zo (.fp [.mz (.i .i64) (mapE (Value.int .i64) (fun x => D.ag (graph_entry.enc x)) g_.nodes)]) rfl rfl ?_; refine Zo (.fp [.mz (.i .i64) (mapE (Value.int .i64) (fun x => D.ag (graph_entry.enc x)) g_.nodes)]) rfl rfl ?_; refine Zo (.d (.mz (.i .i64) (mapE (Value.int .i64) (fun x => D.ag (graph_entry.enc x)) g_.nodes))) rfl rfl ?_; refine Zpp 1 rfl ?_; refine Y1 rfl ?_; refine W.look2 (Value.int .i64) (fun x => D.ag (graph_entry.enc x)) id_ g_.nodes (graph_entry.mk ([] : List Int) (0 : Int)) (fun _ _ => rfl) rfl ?_; refine Zo (.tup [.agg [VF (List.map (encI .i64) (mgetT id_ g_.nodes (graph_entry.mk ([] : List Int) (0 : Int))).parents), VI ((mgetT id_ g_.nodes (graph_entry.mk ([] : List Int) (0 : Int))).level)], VB (mhasT id_ g_.nodes)]) rfl rfl ?_; refine Zo (.agg [VF (List.map (encI .i64) (mgetT id_ g_.nodes (graph_entry.mk ([] : List Int) (0 : Int))).parents), VI ((mgetT id_ g_.nodes (graph_entry.mk ([] : List Int) (0 : Int))).level)]) rfl rfl ?_; refine Zpp 1 rfl ?_; refine Zm (.lp 5 1 0) (Mem.add (Mem.add _ 65541 (.rows 1 (List.map (encI .i64) ([] : List Int)) false)) 5 (.box [.row 65541 1 0, VI 0])) rfl rfl ?_; refine Zm (.tup []) (Mem.set _ 5 1 (some (.box [VF (List.map (encI .i64) (mgetT id_ g_.nodes (graph_entry.mk ([] : List Int) (0 : Int))).parents), VI ((mgetT id_ g_.nodes (graph_entry.mk ([] : List Int) (0 : Int))).level)]))) rfl rfl ?_; refine Zpc 8 rfl ?_; refine A.condB rfl h (fun _ h => ?_) (fun _ h => ?_)
  · refine Zcb 9 rfl ?_; cases h; cases hG; exact ⟨rfl, trivial⟩
  · refine Zcb 8 rfl ?_; cases h; cases hG; exact ⟨rfl, trivial⟩
noncomputable def graph_Graph_Sorted_1 (id_ : Int) (c0_ : graph_Graph) : Option (Bool) :=
  (graph_Graph_Has c0_ id_).bind fun y1 =>
  some (!y1)
theorem graph_Graph_Sorted_1_fn {dr : Prop} {id_ : Int} {c0_ : graph_Graph} {r : Bool} (h : graph_Graph_Sorted_1 id_ c0_ = some r) : Fn dr Try.prog 50 [VI id_, .fp [.pz [.mz (.i .i64) (mapE (Value.int .i64) (fun x => D.ag (graph_entry.enc x)) c0_.nodes)]]] (VB r) := by
  refine Fn.of_AW (dr := dr) (F := FnX dr Try.prog) (base := 0) (js := []) mixed tok noeqs (fun _ _ _ h => h) Try.call50 Try.func50 rfl Try.ntmps50 (by rw [Try.results50]) (by simp) ?_; have hG : (fun x => x = r) r := rfl; unfold graph_Graph_Sorted_1 at h; refine Zap 7 rfl ?_; refine Zo (.fp [.mz (.i .i64) (mapE (Value.int .i64) (fun x => D.ag (graph_entry.enc x)) c0_.nodes)]) rfl rfl ?_; refine Zpp 1 rfl ?_; refine Y1 rfl ?_; refine bindK h fun y1 hy1 h => ?_; refine W.call rfl (Fn.toO (graph_Graph_Has_fn hy1) trivial rfl) ?_; refine Zwb 6 rfl ?_; cases h; cases hG; exact ⟨rfl, trivial⟩
noncomputable def cmp_Or_int_L1 (vals_ : (List Int)) (s3 : Int) : Option ((Int) ⊕ ((Unit) ⊕ (Int))) :=
  (bif (decide (s3 < (vals_.length : Int))) then
    (getI vals_ s3).bind fun x12 =>
    (bif (x12 != (0 : Int)) then
      some (.inr (.inr x12))
    else
      some (.inl (IntKind.i64.wrap (s3 + (1 : Int)))))
  else
    some (.inr (.inl ())))
noncomputable def cmp_Or_int (vals_ : (List Int)) : Option (Int) :=
  (seqF (A := Unit) (
    loopF (cmp_Or_int_L1 vals_) (0 : Int))
  fun s2 =>
    some (0 : Int))
theorem cmp_Or_int_fn {dr : Prop} {vals_ : (List Int)} {r : Int} (h : cmp_Or_int vals_ = some r) : Fn dr Try.prog 53 [VF (List.map (encI .i64) vals_)] (VI r) := by
  refine Fn.of_AW (dr := dr) (F := FnX dr Try.prog) (base := 0) (js := [8]) mixed tok noeqs (fun _ _ _ h => h) Try.call53 Try.func53 rfl Try.ntmps53 (by rw [Try.results53]) (by simp) ?_; have hG : (fun x => x = r) r := rfl; unfold cmp_Or_int at h; refine Zac 10 rfl ?_; refine A.join (fun (s2 : Unit) => [(3, VI 0)]) (fun s2 => []) _ h hG rfl ?_ ?_
  · intro J f h hG; refine Zap 3 rfl ?_; refine Y1 rfl ?_; refine W.len rfl ?_; refine Zpc 4 rfl ?_; refine A.loop (fun (s3 : Int) => [(3, VI 0), (6, VF (List.map (encI .i64) vals_)), (7, VI (vals_.length : Int)), (8, VI s3)]) (fun s3 => []) _ h hG (Zf [] [] rfl rfl (Ze rfl rfl (Ze rfl rfl (Ze rfl rfl (Ze rfl rfl trivial)))) trivial) ?_; intro J s3 f h hG; unfold cmp_Or_int_L1 at h; refine Zac 6 rfl ?_; refine A.condB rfl h (fun _ h => ?_) (fun _ h => ?_)
    · refine Zcp 6 rfl ?_; refine Y1 rfl ?_; refine bindK h fun x12 hx12 h => ?_; refine W.chk rfl (elemB hx12) ?_; refine W.elem rfl (elemG hx12) ?_; refine W.chk rfl rfl ?_; refine W.det (.fp [.v (.int .i64 x12)]) _ rfl ?_; refine Zpc 11 rfl ?_; refine A.condB rfl h (fun _ h => ?_) (fun _ h => ?_)
      · refine Zcb 9 rfl ?_; refine headK.r ?_; refine Zob 1 rfl ?_; refine headK.r ?_; cases h; cases hG; exact ⟨rfl, trivial⟩
      · refine Zcb 7 rfl ?_; cases h; exact Zh hG [] [] rfl rfl (Ze rfl rfl (Ze rfl rfl (Ze rfl rfl (Ze rfl rfl trivial)))) trivial
    · refine Zcb 2 rfl ?_; refine headK.e ?_; refine Zob 1 rfl ?_; cases h; exact Zh hG [] [] rfl rfl (Ze rfl rfl trivial) trivial
  · intro s2 r2 h hG; refine Zcb 7 rfl ?_; cases h; cases hG; exact ⟨rfl, trivial⟩
noncomputable def graph_Graph_Sorted_2 (a_ : Int) (b_ : Int) (c0_ : graph_Graph) : Option (Int) :=
  (cmp_Or_int [(IntKind.i64.wrap ((mgetT a_ c0_.nodes (graph_entry.mk ([] : List Int) (0 : Int))).level - (mgetT b_ c0_.nodes (graph_entry.mk ([] : List Int) (0 : Int))).level)), (IntKind.i64.wrap (a_ - b_))]).bind fun y1 =>
  some y1
theorem graph_Graph_Sorted_2_fn {dr : Prop} {a_ : Int} {b_ : Int} {c0_ : graph_Graph} {r : Int} (h : graph_Graph_Sorted_2 a_ b_ c0_ = some r) : Fn dr Try.prog 52 [VI a_, VI b_, .fp [.pz [.mz (.i .i64) (mapE (Value.int .i64) (fun x => D.ag (graph_entry.enc x)) c0_.nodes)]]] (VI r) := by
  refine Fn.of_AW (dr := dr) (F := FnX dr Try.prog) (base := 0) (js := []) mixed tok noeqs (fun _ _ _ h => h) Try.call52 Try.func52 rfl Try.ntmps52 (by rw [Try.results52]) (by simp) ?_; have hG : (fun x => x = r) r := rfl; unfold graph_Graph_Sorted_2 at h; refine Zac 6 rfl ?_; refine A.regionD (by kernel_rfl) ?_; refine Zo (.fp [.mz (.i .i64) (mapE (Value.int .i64) (fun x => D.ag (graph_entry.enc x)) c0_.nodes)]) rfl rfl ?_; refine Zo (.fp [.mz (.i .i64) (mapE (Value.int .i64) (fun x => D.ag (graph_entry.enc x)) c0_.nodes)]) rfl rfl ?_; refine Zo (.fp [.mz (.i .i64) (mapE (Value.int .i64) (fun x => D.ag (graph_entry.enc x)) c0_.nodes)]) rfl rfl ?_; refine Zo (.d (.mz (.i .i64) (mapE (Value.int .i64) (fun x => D.ag (graph_entry.enc x)) c0_.nodes))) rfl rfl ?_; refine Zpp 1 rfl ?_; refine Y1 rfl ?_; refine W.look (Value.int .i64) (fun x => D.ag (graph_entry.enc x)) a_ c0_.nodes (graph_entry.mk ([] : List Int) (0 : Int)) (fun _ _ => rfl) rfl ?_; refine Zpp 1 rfl ?_; refine Zo (.fp [.mz (.i .i64) (mapE (Value.int .i64) (fun x => D.ag (graph_entry.enc x)) c0_.nodes)]) rfl rfl ?_; refine Zo (.fp [.mz (.i .i64) (mapE (Value.int .i64) (fun x => D.ag (graph_entry.enc x)) c0_.nodes)]) rfl rfl ?_; refine Zo (.fp [.mz (.i .i64) (mapE (Value.int .i64) (fun x => D.ag (graph_entry.enc x)) c0_.nodes)]) rfl rfl ?_; refine Zo (.d (.mz (.i .i64) (mapE (Value.int .i64) (fun x => D.ag (graph_entry.enc x)) c0_.nodes))) rfl rfl ?_; refine Zpp 1 rfl ?_; refine Y1 rfl ?_; refine W.look (Value.int .i64) (fun x => D.ag (graph_entry.enc x)) b_ c0_.nodes (graph_entry.mk ([] : List Int) (0 : Int)) (fun _ _ => rfl) rfl ?_; refine Zpp 5 rfl ?_; refine Zm (.row 24 1 2) (Mem.add _ 24 (.rows 1 (List.map (encI .i64) [(IntKind.i64.wrap ((mgetT a_ c0_.nodes (graph_entry.mk ([] : List Int) (0 : Int))).level - (mgetT b_ c0_.nodes (graph_entry.mk ([] : List Int) (0 : Int))).level)), (IntKind.i64.wrap (a_ - b_))]) false)) rfl rfl ?_; refine Y1 rfl ?_; refine bindK h fun y1 hy1 h => ?_; refine W.call rfl (cmp_Or_int_fn hy1) ?_; refine Zwb 5 rfl ?_; cases h; cases hG; exact ⟨rfl, trivial⟩
noncomputable def math_bits_Len32 (x_ : Int) : Option (Int) :=
  (bif (decide ((65536 : Int) ≤ x_)) then
    (bif (decide ((256 : Int) ≤ (Int.fdiv x_ (2 ^ (min (16 : Int).toNat (IntKind.bits .u32)))))) then
      (chkO (decide (0 ≤ (IntKind.u8.wrap (Int.fdiv (Int.fdiv x_ (2 ^ (min (16 : Int).toNat (IntKind.bits .u32)))) (2 ^ (min (8 : Int).toNat (IntKind.bits .u32)))))) && decide ((IntKind.u8.wrap (Int.fdiv (Int.fdiv x_ (2 ^ (min (16 : Int).toNat (IntKind.bits .u32)))) (2 ^ (min (8 : Int).toNat (IntKind.bits .u32))))) < ((ByteArray.mk #[0, 1, 2, 2, 3, 3, 3, 3, 4, 4, 4, 4, 4, 4, 4, 4, 5, 5, 5, 5, 5, 5, 5, 5, 5, 5, 5, 5, 5, 5, 5, 5, 6, 6, 6, 6, 6, 6, 6, 6, 6, 6, 6, 6, 6, 6, 6, 6, 6, 6, 6, 6, 6, 6, 6, 6, 6, 6, 6, 6, 6, 6, 6, 6, 7, 7, 7, 7, 7, 7, 7, 7, 7, 7, 7, 7, 7, 7, 7, 7, 7, 7, 7, 7, 7, 7, 7, 7, 7, 7, 7, 7, 7, 7, 7, 7, 7, 7, 7, 7, 7, 7, 7, 7, 7, 7, 7, 7, 7, 7, 7, 7, 7, 7, 7, 7, 7, 7, 7, 7, 7, 7, 7, 7, 7, 7, 7, 7, 8, 8, 8, 8, 8, 8, 8, 8, 8, 8, 8, 8, 8, 8, 8, 8, 8, 8, 8, 8, 8, 8, 8, 8, 8, 8, 8, 8, 8, 8, 8, 8, 8, 8, 8, 8, 8, 8, 8, 8, 8, 8, 8, 8, 8, 8, 8, 8, 8, 8, 8, 8, 8, 8, 8, 8, 8, 8, 8, 8, 8, 8, 8, 8, 8, 8, 8, 8, 8, 8, 8, 8, 8, 8, 8, 8, 8, 8, 8, 8, 8, 8, 8, 8, 8, 8, 8, 8, 8, 8, 8, 8, 8, 8, 8, 8, 8, 8, 8, 8, 8, 8, 8, 8, 8, 8, 8, 8, 8, 8, 8, 8, 8, 8, 8, 8, 8, 8, 8, 8, 8, 8, 8, 8, 8, 8, 8, 8]).size : Int)))).bind fun _ =>
      some (IntKind.i64.wrap ((IntKind.i64.wrap ((16 : Int) + (8 : Int))) + (IntKind.i64.wrap (((ByteArray.mk #[0, 1, 2, 2, 3, 3, 3, 3, 4, 4, 4, 4, 4, 4, 4, 4, 5, 5, 5, 5, 5, 5, 5, 5, 5, 5, 5, 5, 5, 5, 5, 5, 6, 6, 6, 6, 6, 6, 6, 6, 6, 6, 6, 6, 6, 6, 6, 6, 6, 6, 6, 6, 6, 6, 6, 6, 6, 6, 6, 6, 6, 6, 6, 6, 7, 7, 7, 7, 7, 7, 7, 7, 7, 7, 7, 7, 7, 7, 7, 7, 7, 7, 7, 7, 7, 7, 7, 7, 7, 7, 7, 7, 7, 7, 7, 7, 7, 7, 7, 7, 7, 7, 7, 7, 7, 7, 7, 7, 7, 7, 7, 7, 7, 7, 7, 7, 7, 7, 7, 7, 7, 7, 7, 7, 7, 7, 7, 7, 8, 8, 8, 8, 8, 8, 8, 8, 8, 8, 8, 8, 8, 8, 8, 8, 8, 8, 8, 8, 8, 8, 8, 8, 8, 8, 8, 8, 8, 8, 8, 8, 8, 8, 8, 8, 8, 8, 8, 8, 8, 8, 8, 8, 8, 8, 8, 8, 8, 8, 8, 8, 8, 8, 8, 8, 8, 8, 8, 8, 8, 8, 8, 8, 8, 8, 8, 8, 8, 8, 8, 8, 8, 8, 8, 8, 8, 8, 8, 8, 8, 8, 8, 8, 8, 8, 8, 8, 8, 8, 8, 8, 8, 8, 8, 8, 8, 8, 8, 8, 8, 8, 8, 8, 8, 8, 8, 8, 8, 8, 8, 8, 8, 8, 8, 8, 8, 8, 8, 8, 8, 8, 8, 8, 8, 8, 8, 8]).data.toList.getD (IntKind.u8.wrap (Int.fdiv (Int.fdiv x_ (2 ^ (min (16 : Int).toNat (IntKind.bits .u32)))) (2 ^ (min (8 : Int).toNat (IntKind.bits .u32))))).toNat 0).toNat : Int))))
    else
      (chkO (decide (0 ≤ (IntKind.u8.wrap (Int.fdiv x_ (2 ^ (min (16 : Int).toNat (IntKind.bits .u32)))))) && decide ((IntKind.u8.wrap (Int.fdiv x_ (2 ^ (min (16 : Int).toNat (IntKind.bits .u32))))) < ((ByteArray.mk #[0, 1, 2, 2, 3, 3, 3, 3, 4, 4, 4, 4, 4, 4, 4, 4, 5, 5, 5, 5, 5, 5, 5, 5, 5, 5, 5, 5, 5, 5, 5, 5, 6, 6, 6, 6, 6, 6, 6, 6, 6, 6, 6, 6, 6, 6, 6, 6, 6, 6, 6, 6, 6, 6, 6, 6, 6, 6, 6, 6, 6, 6, 6, 6, 7, 7, 7, 7, 7, 7, 7, 7, 7, 7, 7, 7, 7, 7, 7, 7, 7, 7, 7, 7, 7, 7, 7, 7, 7, 7, 7, 7, 7, 7, 7, 7, 7, 7, 7, 7, 7, 7, 7, 7, 7, 7, 7, 7, 7, 7, 7, 7, 7, 7, 7, 7, 7, 7, 7, 7, 7, 7, 7, 7, 7, 7, 7, 7, 8, 8, 8, 8, 8, 8, 8, 8, 8, 8, 8, 8, 8, 8, 8, 8, 8, 8, 8, 8, 8, 8, 8, 8, 8, 8, 8, 8, 8, 8, 8, 8, 8, 8, 8, 8, 8, 8, 8, 8, 8, 8, 8, 8, 8, 8, 8, 8, 8, 8, 8, 8, 8, 8, 8, 8, 8, 8, 8, 8, 8, 8, 8, 8, 8, 8, 8, 8, 8, 8, 8, 8, 8, 8, 8, 8, 8, 8, 8, 8, 8, 8, 8, 8, 8, 8, 8, 8, 8, 8, 8, 8, 8, 8, 8, 8, 8, 8, 8, 8, 8, 8, 8, 8, 8, 8, 8, 8, 8, 8, 8, 8, 8, 8, 8, 8, 8, 8, 8, 8, 8, 8, 8, 8, 8, 8, 8, 8]).size : Int)))).bind fun _ =>
      some (IntKind.i64.wrap ((16 : Int) + (IntKind.i64.wrap (((ByteArray.mk #[0, 1, 2, 2, 3, 3, 3, 3, 4, 4, 4, 4, 4, 4, 4, 4, 5, 5, 5, 5, 5, 5, 5, 5, 5, 5, 5, 5, 5, 5, 5, 5, 6, 6, 6, 6, 6, 6, 6, 6, 6, 6, 6, 6, 6, 6, 6, 6, 6, 6, 6, 6, 6, 6, 6, 6, 6, 6, 6, 6, 6, 6, 6, 6, 7, 7, 7, 7, 7, 7, 7, 7, 7, 7, 7, 7, 7, 7, 7, 7, 7, 7, 7, 7, 7, 7, 7, 7, 7, 7, 7, 7, 7, 7, 7, 7, 7, 7, 7, 7, 7, 7, 7, 7, 7, 7, 7, 7, 7, 7, 7, 7, 7, 7, 7, 7, 7, 7, 7, 7, 7, 7, 7, 7, 7, 7, 7, 7, 8, 8, 8, 8, 8, 8, 8, 8, 8, 8, 8, 8, 8, 8, 8, 8, 8, 8, 8, 8, 8, 8, 8, 8, 8, 8, 8, 8, 8, 8, 8, 8, 8, 8, 8, 8, 8, 8, 8, 8, 8, 8, 8, 8, 8, 8, 8, 8, 8, 8, 8, 8, 8, 8, 8, 8, 8, 8, 8, 8, 8, 8, 8, 8, 8, 8, 8, 8, 8, 8, 8, 8, 8, 8, 8, 8, 8, 8, 8, 8, 8, 8, 8, 8, 8, 8, 8, 8, 8, 8, 8, 8, 8, 8, 8, 8, 8, 8, 8, 8, 8, 8, 8, 8, 8, 8, 8, 8, 8, 8, 8, 8, 8, 8, 8, 8, 8, 8, 8, 8, 8, 8, 8, 8, 8, 8, 8, 8]).data.toList.getD (IntKind.u8.wrap (Int.fdiv x_ (2 ^ (min (16 : Int).toNat (IntKind.bits .u32))))).toNat 0).toNat : Int)))))
  else
    (bif (decide ((256 : Int) ≤ x_)) then
      (chkO (decide (0 ≤ (IntKind.u8.wrap (Int.fdiv x_ (2 ^ (min (8 : Int).toNat (IntKind.bits .u32)))))) && decide ((IntKind.u8.wrap (Int.fdiv x_ (2 ^ (min (8 : Int).toNat (IntKind.bits .u32))))) < ((ByteArray.mk #[0, 1, 2, 2, 3, 3, 3, 3, 4, 4, 4, 4, 4, 4, 4, 4, 5, 5, 5, 5, 5, 5, 5, 5, 5, 5, 5, 5, 5, 5, 5, 5, 6, 6, 6, 6, 6, 6, 6, 6, 6, 6, 6, 6, 6, 6, 6, 6, 6, 6, 6, 6, 6, 6, 6, 6, 6, 6, 6, 6, 6, 6, 6, 6, 7, 7, 7, 7, 7, 7, 7, 7, 7, 7, 7, 7, 7, 7, 7, 7, 7, 7, 7, 7, 7, 7, 7, 7, 7, 7, 7, 7, 7, 7, 7, 7, 7, 7, 7, 7, 7, 7, 7, 7, 7, 7, 7, 7, 7, 7, 7, 7, 7, 7, 7, 7, 7, 7, 7, 7, 7, 7, 7, 7, 7, 7, 7, 7, 8, 8, 8, 8, 8, 8, 8, 8, 8, 8, 8, 8, 8, 8, 8, 8, 8, 8, 8, 8, 8, 8, 8, 8, 8, 8, 8, 8, 8, 8, 8, 8, 8, 8, 8, 8, 8, 8, 8, 8, 8, 8, 8, 8, 8, 8, 8, 8, 8, 8, 8, 8, 8, 8, 8, 8, 8, 8, 8, 8, 8, 8, 8, 8, 8, 8, 8, 8, 8, 8, 8, 8, 8, 8, 8, 8, 8, 8, 8, 8, 8, 8, 8, 8, 8, 8, 8, 8, 8, 8, 8, 8, 8, 8, 8, 8, 8, 8, 8, 8, 8, 8, 8, 8, 8, 8, 8, 8, 8, 8, 8, 8, 8, 8, 8, 8, 8, 8, 8, 8, 8, 8, 8, 8, 8, 8, 8, 8]).size : Int)))).bind fun _ =>
      some (IntKind.i64.wrap ((IntKind.i64.wrap ((0 : Int) + (8 : Int))) + (IntKind.i64.wrap (((ByteArray.mk #[0, 1, 2, 2, 3, 3, 3, 3, 4, 4, 4, 4, 4, 4, 4, 4, 5, 5, 5, 5, 5, 5, 5, 5, 5, 5, 5, 5, 5, 5, 5, 5, 6, 6, 6, 6, 6, 6, 6, 6, 6, 6, 6, 6, 6, 6, 6, 6, 6, 6, 6, 6, 6, 6, 6, 6, 6, 6, 6, 6, 6, 6, 6, 6, 7, 7, 7, 7, 7, 7, 7, 7, 7, 7, 7, 7, 7, 7, 7, 7, 7, 7, 7, 7, 7, 7, 7, 7, 7, 7, 7, 7, 7, 7, 7, 7, 7, 7, 7, 7, 7, 7, 7, 7, 7, 7, 7, 7, 7, 7, 7, 7, 7, 7, 7, 7, 7, 7, 7, 7, 7, 7, 7, 7, 7, 7, 7, 7, 8, 8, 8, 8, 8, 8, 8, 8, 8, 8, 8, 8, 8, 8, 8, 8, 8, 8, 8, 8, 8, 8, 8, 8, 8, 8, 8, 8, 8, 8, 8, 8, 8, 8, 8, 8, 8, 8, 8, 8, 8, 8, 8, 8, 8, 8, 8, 8, 8, 8, 8, 8, 8, 8, 8, 8, 8, 8, 8, 8, 8, 8, 8, 8, 8, 8, 8, 8, 8, 8, 8, 8, 8, 8, 8, 8, 8, 8, 8, 8, 8, 8, 8, 8, 8, 8, 8, 8, 8, 8, 8, 8, 8, 8, 8, 8, 8, 8, 8, 8, 8, 8, 8, 8, 8, 8, 8, 8, 8, 8, 8, 8, 8, 8, 8, 8, 8, 8, 8, 8, 8, 8, 8, 8, 8, 8, 8, 8]).data.toList.getD (IntKind.u8.wrap (Int.fdiv x_ (2 ^ (min (8 : Int).toNat (IntKind.bits .u32))))).toNat 0).toNat : Int))))
    else
      (chkO (decide (0 ≤ (IntKind.u8.wrap x_)) && decide ((IntKind.u8.wrap x_) < ((ByteArray.mk #[0, 1, 2, 2, 3, 3, 3, 3, 4, 4, 4, 4, 4, 4, 4, 4, 5, 5, 5, 5, 5, 5, 5, 5, 5, 5, 5, 5, 5, 5, 5, 5, 6, 6, 6, 6, 6, 6, 6, 6, 6, 6, 6, 6, 6, 6, 6, 6, 6, 6, 6, 6, 6, 6, 6, 6, 6, 6, 6, 6, 6, 6, 6, 6, 7, 7, 7, 7, 7, 7, 7, 7, 7, 7, 7, 7, 7, 7, 7, 7, 7, 7, 7, 7, 7, 7, 7, 7, 7, 7, 7, 7, 7, 7, 7, 7, 7, 7, 7, 7, 7, 7, 7, 7, 7, 7, 7, 7, 7, 7, 7, 7, 7, 7, 7, 7, 7, 7, 7, 7, 7, 7, 7, 7, 7, 7, 7, 7, 8, 8, 8, 8, 8, 8, 8, 8, 8, 8, 8, 8, 8, 8, 8, 8, 8, 8, 8, 8, 8, 8, 8, 8, 8, 8, 8, 8, 8, 8, 8, 8, 8, 8, 8, 8, 8, 8, 8, 8, 8, 8, 8, 8, 8, 8, 8, 8, 8, 8, 8, 8, 8, 8, 8, 8, 8, 8, 8, 8, 8, 8, 8, 8, 8, 8, 8, 8, 8, 8, 8, 8, 8, 8, 8, 8, 8, 8, 8, 8, 8, 8, 8, 8, 8, 8, 8, 8, 8, 8, 8, 8, 8, 8, 8, 8, 8, 8, 8, 8, 8, 8, 8, 8, 8, 8, 8, 8, 8, 8, 8, 8, 8, 8, 8, 8, 8, 8, 8, 8, 8, 8, 8, 8, 8, 8, 8, 8]).size : Int)))).bind fun _ =>
      some (IntKind.i64.wrap ((0 : Int) + (IntKind.i64.wrap (((ByteArray.mk #[0, 1, 2, 2, 3, 3, 3, 3, 4, 4, 4, 4, 4, 4, 4, 4, 5, 5, 5, 5, 5, 5, 5, 5, 5, 5, 5, 5, 5, 5, 5, 5, 6, 6, 6, 6, 6, 6, 6, 6, 6, 6, 6, 6, 6, 6, 6, 6, 6, 6, 6, 6, 6, 6, 6, 6, 6, 6, 6, 6, 6, 6, 6, 6, 7, 7, 7, 7, 7, 7, 7, 7, 7, 7, 7, 7, 7, 7, 7, 7, 7, 7, 7, 7, 7, 7, 7, 7, 7, 7, 7, 7, 7, 7, 7, 7, 7, 7, 7, 7, 7, 7, 7, 7, 7, 7, 7, 7, 7, 7, 7, 7, 7, 7, 7, 7, 7, 7, 7, 7, 7, 7, 7, 7, 7, 7, 7, 7, 8, 8, 8, 8, 8, 8, 8, 8, 8, 8, 8, 8, 8, 8, 8, 8, 8, 8, 8, 8, 8, 8, 8, 8, 8, 8, 8, 8, 8, 8, 8, 8, 8, 8, 8, 8, 8, 8, 8, 8, 8, 8, 8, 8, 8, 8, 8, 8, 8, 8, 8, 8, 8, 8, 8, 8, 8, 8, 8, 8, 8, 8, 8, 8, 8, 8, 8, 8, 8, 8, 8, 8, 8, 8, 8, 8, 8, 8, 8, 8, 8, 8, 8, 8, 8, 8, 8, 8, 8, 8, 8, 8, 8, 8, 8, 8, 8, 8, 8, 8, 8, 8, 8, 8, 8, 8, 8, 8, 8, 8, 8, 8, 8, 8, 8, 8, 8, 8, 8, 8, 8, 8, 8, 8, 8, 8, 8, 8]).data.toList.getD (IntKind.u8.wrap x_).toNat 0).toNat : Int))))))
theorem math_bits_Len32_fn {dr : Prop} {x_ : Int} {r : Int} (h : math_bits_Len32 x_ = some r) : Fn dr Try.prog 79 [.d (.v (.int .u32 x_))] (VI r) := by
  refine Fn.of_AW (dr := dr) (F := FnX dr Try.prog) (base := 0) (js := []) mixed tok noeqs (fun _ _ _ h => h) Try.call79 Try.func79 rfl Try.ntmps79 (by rw [Try.results79]) (by simp) ?_; have hG : (fun x => x = r) r := rfl; unfold math_bits_Len32 at h; refine Zac 12 rfl ?_; refine A.condB rfl h (fun _ h => ?_) (fun _ h => ?_)
  · refine Zcp 3 rfl ?_; refine Y1 rfl ?_; refine W.chk rfl (by decide) ?_; refine Zwc 15 rfl ?_; refine A.condB rfl h (fun _ h => ?_) (fun _ h => ?_)
    · refine Zcp 3 rfl ?_; refine Y1 rfl ?_; refine W.chk rfl (by decide) ?_; refine Zwp 15 rfl ?_; refine Y1 rfl ?_; refine chkK h fun g1 h => ?_; refine W.chk rfl (by simpa using g1) ?_; refine W.det (.d (.v (.int .u8 (((ByteArray.mk #[0, 1, 2, 2, 3, 3, 3, 3, 4, 4, 4, 4, 4, 4, 4, 4, 5, 5, 5, 5, 5, 5, 5, 5, 5, 5, 5, 5, 5, 5, 5, 5, 6, 6, 6, 6, 6, 6, 6, 6, 6, 6, 6, 6, 6, 6, 6, 6, 6, 6, 6, 6, 6, 6, 6, 6, 6, 6, 6, 6, 6, 6, 6, 6, 7, 7, 7, 7, 7, 7, 7, 7, 7, 7, 7, 7, 7, 7, 7, 7, 7, 7, 7, 7, 7, 7, 7, 7, 7, 7, 7, 7, 7, 7, 7, 7, 7, 7, 7, 7, 7, 7, 7, 7, 7, 7, 7, 7, 7, 7, 7, 7, 7, 7, 7, 7, 7, 7, 7, 7, 7, 7, 7, 7, 7, 7, 7, 7, 8, 8, 8, 8, 8, 8, 8, 8, 8, 8, 8, 8, 8, 8, 8, 8, 8, 8, 8, 8, 8, 8, 8, 8, 8, 8, 8, 8, 8, 8, 8, 8, 8, 8, 8, 8, 8, 8, 8, 8, 8, 8, 8, 8, 8, 8, 8, 8, 8, 8, 8, 8, 8, 8, 8, 8, 8, 8, 8, 8, 8, 8, 8, 8, 8, 8, 8, 8, 8, 8, 8, 8, 8, 8, 8, 8, 8, 8, 8, 8, 8, 8, 8, 8, 8, 8, 8, 8, 8, 8, 8, 8, 8, 8, 8, 8, 8, 8, 8, 8, 8, 8, 8, 8, 8, 8, 8, 8, 8, 8, 8, 8, 8, 8, 8, 8, 8, 8, 8, 8, 8, 8, 8, 8, 8, 8, 8, 8]).data.toList.getD (IntKind.u8.wrap (Int.fdiv (Int.fdiv x_ (2 ^ (min (16 : Int).toNat (IntKind.bits .u32)))) (2 ^ (min (8 : Int).toNat (IntKind.bits .u32))))).toNat 0).toNat : Int)))) _ rfl ?_; refine Zpb 6 rfl ?_; cases h; cases hG; exact ⟨rfl, trivial⟩
    · refine Zcp 7 rfl ?_; refine Y1 rfl ?_; refine chkK h fun g2 h => ?_; refine W.chk rfl (by simpa using g2) ?_; refine W.det (.d (.v (.int .u8 (((ByteArray.mk #[0, 1, 2, 2, 3, 3, 3, 3, 4, 4, 4, 4, 4, 4, 4, 4, 5, 5, 5, 5, 5, 5, 5, 5, 5, 5, 5, 5, 5, 5, 5, 5, 6, 6, 6, 6, 6, 6, 6, 6, 6, 6, 6, 6, 6, 6, 6, 6, 6, 6, 6, 6, 6, 6, 6, 6, 6, 6, 6, 6, 6, 6, 6, 6, 7, 7, 7, 7, 7, 7, 7, 7, 7, 7, 7, 7, 7, 7, 7, 7, 7, 7, 7, 7, 7, 7, 7, 7, 7, 7, 7, 7, 7, 7, 7, 7, 7, 7, 7, 7, 7, 7, 7, 7, 7, 7, 7, 7, 7, 7, 7, 7, 7, 7, 7, 7, 7, 7, 7, 7, 7, 7, 7, 7, 7, 7, 7, 7, 8, 8, 8, 8, 8, 8, 8, 8, 8, 8, 8, 8, 8, 8, 8, 8, 8, 8, 8, 8, 8, 8, 8, 8, 8, 8, 8, 8, 8, 8, 8, 8, 8, 8, 8, 8, 8, 8, 8, 8, 8, 8, 8, 8, 8, 8, 8, 8, 8, 8, 8, 8, 8, 8, 8, 8, 8, 8, 8, 8, 8, 8, 8, 8, 8, 8, 8, 8, 8, 8, 8, 8, 8, 8, 8, 8, 8, 8, 8, 8, 8, 8, 8, 8, 8, 8, 8, 8, 8, 8, 8, 8, 8, 8, 8, 8, 8, 8, 8, 8, 8, 8, 8, 8, 8, 8, 8, 8, 8, 8, 8, 8, 8, 8, 8, 8, 8, 8, 8, 8, 8, 8, 8, 8, 8, 8, 8, 8]).data.toList.getD (IntKind.u8.wrap (Int.fdiv x_ (2 ^ (min (16 : Int).toNat (IntKind.bits .u32))))).toNat 0).toNat : Int)))) _ rfl ?_; refine Zpb 6 rfl ?_; cases h; cases hG; exact ⟨rfl, trivial⟩
  · refine Zcc 9 rfl ?_; refine A.condB rfl h (fun _ h => ?_) (fun _ h => ?_)
    · refine Zcp 3 rfl ?_; refine Y1 rfl ?_; refine W.chk rfl (by decide) ?_; refine Zwp 15 rfl ?_; refine Y1 rfl ?_; refine chkK h fun g3 h => ?_; refine W.chk rfl (by simpa using g3) ?_; refine W.det (.d (.v (.int .u8 (((ByteArray.mk #[0, 1, 2, 2, 3, 3, 3, 3, 4, 4, 4, 4, 4, 4, 4, 4, 5, 5, 5, 5, 5, 5, 5, 5, 5, 5, 5, 5, 5, 5, 5, 5, 6, 6, 6, 6, 6, 6, 6, 6, 6, 6, 6, 6, 6, 6, 6, 6, 6, 6, 6, 6, 6, 6, 6, 6, 6, 6, 6, 6, 6, 6, 6, 6, 7, 7, 7, 7, 7, 7, 7, 7, 7, 7, 7, 7, 7, 7, 7, 7, 7, 7, 7, 7, 7, 7, 7, 7, 7, 7, 7, 7, 7, 7, 7, 7, 7, 7, 7, 7, 7, 7, 7, 7, 7, 7, 7, 7, 7, 7, 7, 7, 7, 7, 7, 7, 7, 7, 7, 7, 7, 7, 7, 7, 7, 7, 7, 7, 8, 8, 8, 8, 8, 8, 8, 8, 8, 8, 8, 8, 8, 8, 8, 8, 8, 8, 8, 8, 8, 8, 8, 8, 8, 8, 8, 8, 8, 8, 8, 8, 8, 8, 8, 8, 8, 8, 8, 8, 8, 8, 8, 8, 8, 8, 8, 8, 8, 8, 8, 8, 8, 8, 8, 8, 8, 8, 8, 8, 8, 8, 8, 8, 8, 8, 8, 8, 8, 8, 8, 8, 8, 8, 8, 8, 8, 8, 8, 8, 8, 8, 8, 8, 8, 8, 8, 8, 8, 8, 8, 8, 8, 8, 8, 8, 8, 8, 8, 8, 8, 8, 8, 8, 8, 8, 8, 8, 8, 8, 8, 8, 8, 8, 8, 8, 8, 8, 8, 8, 8, 8, 8, 8, 8, 8, 8, 8]).data.toList.getD (IntKind.u8.wrap (Int.fdiv x_ (2 ^ (min (8 : Int).toNat (IntKind.bits .u32))))).toNat 0).toNat : Int)))) _ rfl ?_; refine Zpb 6 rfl ?_; cases h; cases hG; exact ⟨rfl, trivial⟩
    · refine Zcp 7 rfl ?_; refine Y1 rfl ?_; refine chkK h fun g4 h => ?_; refine W.chk rfl (by simpa using g4) ?_; refine W.det (.d (.v (.int .u8 (((ByteArray.mk #[0, 1, 2, 2, 3, 3, 3, 3, 4, 4, 4, 4, 4, 4, 4, 4, 5, 5, 5, 5, 5, 5, 5, 5, 5, 5, 5, 5, 5, 5, 5, 5, 6, 6, 6, 6, 6, 6, 6, 6, 6, 6, 6, 6, 6, 6, 6, 6, 6, 6, 6, 6, 6, 6, 6, 6, 6, 6, 6, 6, 6, 6, 6, 6, 7, 7, 7, 7, 7, 7, 7, 7, 7, 7, 7, 7, 7, 7, 7, 7, 7, 7, 7, 7, 7, 7, 7, 7, 7, 7, 7, 7, 7, 7, 7, 7, 7, 7, 7, 7, 7, 7, 7, 7, 7, 7, 7, 7, 7, 7, 7, 7, 7, 7, 7, 7, 7, 7, 7, 7, 7, 7, 7, 7, 7, 7, 7, 7, 8, 8, 8, 8, 8, 8, 8, 8, 8, 8, 8, 8, 8, 8, 8, 8, 8, 8, 8, 8, 8, 8, 8, 8, 8, 8, 8, 8, 8, 8, 8, 8, 8, 8, 8, 8, 8, 8, 8, 8, 8, 8, 8, 8, 8, 8, 8, 8, 8, 8, 8, 8, 8, 8, 8, 8, 8, 8, 8, 8, 8, 8, 8, 8, 8, 8, 8, 8, 8, 8, 8, 8, 8, 8, 8, 8, 8, 8, 8, 8, 8, 8, 8, 8, 8, 8, 8, 8, 8, 8, 8, 8, 8, 8, 8, 8, 8, 8, 8, 8, 8, 8, 8, 8, 8, 8, 8, 8, 8, 8, 8, 8, 8, 8, 8, 8, 8, 8, 8, 8, 8, 8, 8, 8, 8, 8, 8, 8]).data.toList.getD (IntKind.u8.wrap x_).toNat 0).toNat : Int)))) _ rfl ?_; refine Zpb 6 rfl ?_; cases h; cases hG; exact ⟨rfl, trivial⟩
noncomputable def math_bits_Len64 (x_ : Int) : Option (Int) :=
  (bif (decide ((4294967296 : Int) ≤ x_)) then
    (bif (decide ((65536 : Int) ≤ (Int.fdiv x_ (2 ^ (min (32 : Int).toNat (IntKind.bits .u64)))))) then
      (bif (decide ((256 : Int) ≤ (Int.fdiv (Int.fdiv x_ (2 ^ (min (32 : Int).toNat (IntKind.bits .u64)))) (2 ^ (min (16 : Int).toNat (IntKind.bits .u64)))))) then
        (chkO (decide (0 ≤ (IntKind.u8.wrap (Int.fdiv (Int.fdiv (Int.fdiv x_ (2 ^ (min (32 : Int).toNat (IntKind.bits .u64)))) (2 ^ (min (16 : Int).toNat (IntKind.bits .u64)))) (2 ^ (min (8 : Int).toNat (IntKind.bits .u64)))))) && decide ((IntKind.u8.wrap (Int.fdiv (Int.fdiv (Int.fdiv x_ (2 ^ (min (32 : Int).toNat (IntKind.bits .u64)))) (2 ^ (min (16 : Int).toNat (IntKind.bits .u64)))) (2 ^ (min (8 : Int).toNat (IntKind.bits .u64))))) < ((ByteArray.mk #[0, 1, 2, 2, 3, 3, 3, 3, 4, 4, 4, 4, 4, 4, 4, 4, 5, 5, 5, 5, 5, 5, 5, 5, 5, 5, 5, 5, 5, 5, 5, 5, 6, 6, 6, 6, 6, 6, 6, 6, 6, 6, 6, 6, 6, 6, 6, 6, 6, 6, 6, 6, 6, 6, 6, 6, 6, 6, 6, 6, 6, 6, 6, 6, 7, 7, 7, 7, 7, 7, 7, 7, 7, 7, 7, 7, 7, 7, 7, 7, 7, 7, 7, 7, 7, 7, 7, 7, 7, 7, 7, 7, 7, 7, 7, 7, 7, 7, 7, 7, 7, 7, 7, 7, 7, 7, 7, 7, 7, 7, 7, 7, 7, 7, 7, 7, 7, 7, 7, 7, 7, 7, 7, 7, 7, 7, 7, 7, 8, 8, 8, 8, 8, 8, 8, 8, 8, 8, 8, 8, 8, 8, 8, 8, 8, 8, 8, 8, 8, 8, 8, 8, 8, 8, 8, 8, 8, 8, 8, 8, 8, 8, 8, 8, 8, 8, 8, 8, 8, 8, 8, 8, 8, 8, 8, 8, 8, 8, 8, 8, 8, 8, 8, 8, 8, 8, 8, 8, 8, 8, 8, 8, 8, 8, 8, 8, 8, 8, 8, 8, 8, 8, 8, 8, 8, 8, 8, 8, 8, 8, 8, 8, 8, 8, 8, 8, 8, 8, 8, 8, 8, 8, 8, 8, 8, 8, 8, 8, 8, 8, 8, 8, 8, 8, 8, 8, 8, 8, 8, 8, 8, 8, 8, 8, 8, 8, 8, 8, 8, 8, 8, 8, 8, 8, 8, 8]).size : Int)))).bind fun _ =>
        some (IntKind.i64.wrap ((IntKind.i64.wrap ((IntKind.i64.wrap ((32 : Int) + (16 : Int))) + (8 : Int))) + (IntKind.i64.wrap (((ByteArray.mk #[0, 1, 2, 2, 3, 3, 3, 3, 4, 4, 4, 4, 4, 4, 4, 4, 5, 5, 5, 5, 5, 5, 5, 5, 5, 5, 5, 5, 5, 5, 5, 5, 6, 6, 6, 6, 6, 6, 6, 6, 6, 6, 6, 6, 6, 6, 6, 6, 6, 6, 6, 6, 6, 6, 6, 6, 6, 6, 6, 6, 6, 6, 6, 6, 7, 7, 7, 7, 7, 7, 7, 7, 7, 7, 7, 7, 7, 7, 7, 7, 7, 7, 7, 7, 7, 7, 7, 7, 7, 7, 7, 7, 7, 7, 7, 7, 7, 7, 7, 7, 7, 7, 7, 7, 7, 7, 7, 7, 7, 7, 7, 7, 7, 7, 7, 7, 7, 7, 7, 7, 7, 7, 7, 7, 7, 7, 7, 7, 8, 8, 8, 8, 8, 8, 8, 8, 8, 8, 8, 8, 8, 8, 8, 8, 8, 8, 8, 8, 8, 8, 8, 8, 8, 8, 8, 8, 8, 8, 8, 8, 8, 8, 8, 8, 8, 8, 8, 8, 8, 8, 8, 8, 8, 8, 8, 8, 8, 8, 8, 8, 8, 8, 8, 8, 8, 8, 8, 8, 8, 8, 8, 8, 8, 8, 8, 8, 8, 8, 8, 8, 8, 8, 8, 8, 8, 8, 8, 8, 8, 8, 8, 8, 8, 8, 8, 8, 8, 8, 8, 8, 8, 8, 8, 8, 8, 8, 8, 8, 8, 8, 8, 8, 8, 8, 8, 8, 8, 8, 8, 8, 8, 8, 8, 8, 8, 8, 8, 8, 8, 8, 8, 8, 8, 8, 8, 8]).data.toList.getD (IntKind.u8.wrap (Int.fdiv (Int.fdiv (Int.fdiv x_ (2 ^ (min (32 : Int).toNat (IntKind.bits .u64)))) (2 ^ (min (16 : Int).toNat (IntKind.bits .u64)))) (2 ^ (min (8 : Int).toNat (IntKind.bits .u64))))).toNat 0).toNat : Int))))
      else
        (chkO (decide (0 ≤ (IntKind.u8.wrap (Int.fdiv (Int.fdiv x_ (2 ^ (min (32 : Int).toNat (IntKind.bits .u64)))) (2 ^ (min (16 : Int).toNat (IntKind.bits .u64)))))) && decide ((IntKind.u8.wrap (Int.fdiv (Int.fdiv x_ (2 ^ (min (32 : Int).toNat (IntKind.bits .u64)))) (2 ^ (min (16 : Int).toNat (IntKind.bits .u64))))) < ((ByteArray.mk #[0, 1, 2, 2, 3, 3, 3, 3, 4, 4, 4, 4, 4, 4, 4, 4, 5, 5, 5, 5, 5, 5, 5, 5, 5, 5, 5, 5, 5, 5, 5, 5, 6, 6, 6, 6, 6, 6, 6, 6, 6, 6, 6, 6, 6, 6, 6, 6, 6, 6, 6, 6, 6, 6, 6, 6, 6, 6, 6, 6, 6, 6, 6, 6, 7, 7, 7, 7, 7, 7, 7, 7, 7, 7, 7, 7, 7, 7, 7, 7, 7, 7, 7, 7, 7, 7, 7, 7, 7, 7, 7, 7, 7, 7, 7, 7, 7, 7, 7, 7, 7, 7, 7, 7, 7, 7, 7, 7, 7, 7, 7, 7, 7, 7, 7, 7, 7, 7, 7, 7, 7, 7, 7, 7, 7, 7, 7, 7, 8, 8, 8, 8, 8, 8, 8, 8, 8, 8, 8, 8, 8, 8, 8, 8, 8, 8, 8, 8, 8, 8, 8, 8, 8, 8, 8, 8, 8, 8, 8, 8, 8, 8, 8, 8, 8, 8, 8, 8, 8, 8, 8, 8, 8, 8, 8, 8, 8, 8, 8, 8, 8, 8, 8, 8, 8, 8, 8, 8, 8, 8, 8, 8, 8, 8, 8, 8, 8, 8, 8, 8, 8, 8, 8, 8, 8, 8, 8, 8, 8, 8, 8, 8, 8, 8, 8, 8, 8, 8, 8, 8, 8, 8, 8, 8, 8, 8, 8, 8, 8, 8, 8, 8, 8, 8, 8, 8, 8, 8, 8, 8, 8, 8, 8, 8, 8, 8, 8, 8, 8, 8, 8, 8, 8, 8, 8, 8]).size : Int)))).bind fun _ =>
        some (IntKind.i64.wrap ((IntKind.i64.wrap ((32 : Int) + (16 : Int))) + (IntKind.i64.wrap (((ByteArray.mk #[0, 1, 2, 2, 3, 3, 3, 3, 4, 4, 4, 4, 4, 4, 4, 4, 5, 5, 5, 5, 5, 5, 5, 5, 5, 5, 5, 5, 5, 5, 5, 5, 6, 6, 6, 6, 6, 6, 6, 6, 6, 6, 6, 6, 6, 6, 6, 6, 6, 6, 6, 6, 6, 6, 6, 6, 6, 6, 6, 6, 6, 6, 6, 6, 7, 7, 7, 7, 7, 7, 7, 7, 7, 7, 7, 7, 7, 7, 7, 7, 7, 7, 7, 7, 7, 7, 7, 7, 7, 7, 7, 7, 7, 7, 7, 7, 7, 7, 7, 7, 7, 7, 7, 7, 7, 7, 7, 7, 7, 7, 7, 7, 7, 7, 7, 7, 7, 7, 7, 7, 7, 7, 7, 7, 7, 7, 7, 7, 8, 8, 8, 8, 8, 8, 8, 8, 8, 8, 8, 8, 8, 8, 8, 8, 8, 8, 8, 8, 8, 8, 8, 8, 8, 8, 8, 8, 8, 8, 8, 8, 8, 8, 8, 8, 8, 8, 8, 8, 8, 8, 8, 8, 8, 8, 8, 8, 8, 8, 8, 8, 8, 8, 8, 8, 8, 8, 8, 8, 8, 8, 8, 8, 8, 8, 8, 8, 8, 8, 8, 8, 8, 8, 8, 8, 8, 8, 8, 8, 8, 8, 8, 8, 8, 8, 8, 8, 8, 8, 8, 8, 8, 8, 8, 8, 8, 8, 8, 8, 8, 8, 8, 8, 8, 8, 8, 8, 8, 8, 8, 8, 8, 8, 8, 8, 8, 8, 8, 8, 8, 8, 8, 8, 8, 8, 8, 8]).data.toList.getD (IntKind.u8.wrap (Int.fdiv (Int.fdiv x_ (2 ^ (min (32 : Int).toNat (IntKind.bits .u64)))) (2 ^ (min (16 : Int).toNat (IntKind.bits .u64))))).toNat 0).toNat : Int)))))
    else
      (bif (decide ((256 : Int) ≤ (Int.fdiv x_ (2 ^ (min (32 : Int).toNat (IntKind.bits .u64)))))) then
        (chkO (decide (0 ≤ (IntKind.u8.wrap (Int.fdiv (Int.fdiv x_ (2 ^ (min (32 : Int).toNat (IntKind.bits .u64)))) (2 ^ (min (8 : Int).toNat (IntKind.bits .u64)))))) && decide ((IntKind.u8.wrap (Int.fdiv (Int.fdiv x_ (2 ^ (min (32 : Int).toNat (IntKind.bits .u64)))) (2 ^ (min (8 : Int).toNat (IntKind.bits .u64))))) < ((ByteArray.mk #[0, 1, 2, 2, 3, 3, 3, 3, 4, 4, 4, 4, 4, 4, 4, 4, 5, 5, 5, 5, 5, 5, 5, 5, 5, 5, 5, 5, 5, 5, 5, 5, 6, 6, 6, 6, 6, 6, 6, 6, 6, 6, 6, 6, 6, 6, 6, 6, 6, 6, 6, 6, 6, 6, 6, 6, 6, 6, 6, 6, 6, 6, 6, 6, 7, 7, 7, 7, 7, 7, 7, 7, 7, 7, 7, 7, 7, 7, 7, 7, 7, 7, 7, 7, 7, 7, 7, 7, 7, 7, 7, 7, 7, 7, 7, 7, 7, 7, 7, 7, 7, 7, 7, 7, 7, 7, 7, 7, 7, 7, 7, 7, 7, 7, 7, 7, 7, 7, 7, 7, 7, 7, 7, 7, 7, 7, 7, 7, 8, 8, 8, 8, 8, 8, 8, 8, 8, 8, 8, 8, 8, 8, 8, 8, 8, 8, 8, 8, 8, 8, 8, 8, 8, 8, 8, 8, 8, 8, 8, 8, 8, 8, 8, 8, 8, 8, 8, 8, 8, 8, 8, 8, 8, 8, 8, 8, 8, 8, 8, 8, 8, 8, 8, 8, 8, 8, 8, 8, 8, 8, 8, 8, 8, 8, 8, 8, 8, 8, 8, 8, 8, 8, 8, 8, 8, 8, 8, 8, 8, 8, 8, 8, 8, 8, 8, 8, 8, 8, 8, 8, 8, 8, 8, 8, 8, 8, 8, 8, 8, 8, 8, 8, 8, 8, 8, 8, 8, 8, 8, 8, 8, 8, 8, 8, 8, 8, 8, 8, 8, 8, 8, 8, 8, 8, 8, 8]).size : Int)))).bind fun _ =>
        some (IntKind.i64.wrap ((IntKind.i64.wrap ((32 : Int) + (8 : Int))) + (IntKind.i64.wrap (((ByteArray.mk #[0, 1, 2, 2, 3, 3, 3, 3, 4, 4, 4, 4, 4, 4, 4, 4, 5, 5, 5, 5, 5, 5, 5, 5, 5, 5, 5, 5, 5, 5, 5, 5, 6, 6, 6, 6, 6, 6, 6, 6, 6, 6, 6, 6, 6, 6, 6, 6, 6, 6, 6, 6, 6, 6, 6, 6, 6, 6, 6, 6, 6, 6, 6, 6, 7, 7, 7, 7, 7, 7, 7, 7, 7, 7, 7, 7, 7, 7, 7, 7, 7, 7, 7, 7, 7, 7, 7, 7, 7, 7, 7, 7, 7, 7, 7, 7, 7, 7, 7, 7, 7, 7, 7, 7, 7, 7, 7, 7, 7, 7, 7, 7, 7, 7, 7, 7, 7, 7, 7, 7, 7, 7, 7, 7, 7, 7, 7, 7, 8, 8, 8, 8, 8, 8, 8, 8, 8, 8, 8, 8, 8, 8, 8, 8, 8, 8, 8, 8, 8, 8, 8, 8, 8, 8, 8, 8, 8, 8, 8, 8, 8, 8, 8, 8, 8, 8, 8, 8, 8, 8, 8, 8, 8, 8, 8, 8, 8, 8, 8, 8, 8, 8, 8, 8, 8, 8, 8, 8, 8, 8, 8, 8, 8, 8, 8, 8, 8, 8, 8, 8, 8, 8, 8, 8, 8, 8, 8, 8, 8, 8, 8, 8, 8, 8, 8, 8, 8, 8, 8, 8, 8, 8, 8, 8, 8, 8, 8, 8, 8, 8, 8, 8, 8, 8, 8, 8, 8, 8, 8, 8, 8, 8, 8, 8, 8, 8, 8, 8, 8, 8, 8, 8, 8, 8, 8, 8]).data.toList.getD (IntKind.u8.wrap (Int.fdiv (Int.fdiv x_ (2 ^ (min (32 : Int).toNat (IntKind.bits .u64)))) (2 ^ (min (8 : Int).toNat (IntKind.bits .u64))))).toNat 0).toNat : Int))))
      else
        (chkO (decide (0 ≤ (IntKind.u8.wrap (Int.fdiv x_ (2 ^ (min (32 : Int).toNat (IntKind.bits .u64)))))) && decide ((IntKind.u8.wrap (Int.fdiv x_ (2 ^ (min (32 : Int).toNat (IntKind.bits .u64))))) < ((ByteArray.mk #[0, 1, 2, 2, 3, 3, 3, 3, 4, 4, 4, 4, 4, 4, 4, 4, 5, 5, 5, 5, 5, 5, 5, 5, 5, 5, 5, 5, 5, 5, 5, 5, 6, 6, 6, 6, 6, 6, 6, 6, 6, 6, 6, 6, 6, 6, 6, 6, 6, 6, 6, 6, 6, 6, 6, 6, 6, 6, 6, 6, 6, 6, 6, 6, 7, 7, 7, 7, 7, 7, 7, 7, 7, 7, 7, 7, 7, 7, 7, 7, 7, 7, 7, 7, 7, 7, 7, 7, 7, 7, 7, 7, 7, 7, 7, 7, 7, 7, 7, 7, 7, 7, 7, 7, 7, 7, 7, 7, 7, 7, 7, 7, 7, 7, 7, 7, 7, 7, 7, 7, 7, 7, 7, 7, 7, 7, 7, 7, 8, 8, 8, 8, 8, 8, 8, 8, 8, 8, 8, 8, 8, 8, 8, 8, 8, 8, 8, 8, 8, 8, 8, 8, 8, 8, 8, 8, 8, 8, 8, 8, 8, 8, 8, 8, 8, 8, 8, 8, 8, 8, 8, 8, 8, 8, 8, 8, 8, 8, 8, 8, 8, 8, 8, 8, 8, 8, 8, 8, 8, 8, 8, 8, 8, 8, 8, 8, 8, 8, 8, 8, 8, 8, 8, 8, 8, 8, 8, 8, 8, 8, 8, 8, 8, 8, 8, 8, 8, 8, 8, 8, 8, 8, 8, 8, 8, 8, 8, 8, 8, 8, 8, 8, 8, 8, 8, 8, 8, 8, 8, 8, 8, 8, 8, 8, 8, 8, 8, 8, 8, 8, 8, 8, 8, 8, 8, 8]).size : Int)))).bind fun _ =>
        some (IntKind.i64.wrap ((32 : Int) + (IntKind.i64.wrap (((ByteArray.mk #[0, 1, 2, 2, 3, 3, 3, 3, 4, 4, 4, 4, 4, 4, 4, 4, 5, 5, 5, 5, 5, 5, 5, 5, 5, 5, 5, 5, 5, 5, 5, 5, 6, 6, 6, 6, 6, 6, 6, 6, 6, 6, 6, 6, 6, 6, 6, 6, 6, 6, 6, 6, 6, 6, 6, 6, 6, 6, 6, 6, 6, 6, 6, 6, 7, 7, 7, 7, 7, 7, 7, 7, 7, 7, 7, 7, 7, 7, 7, 7, 7, 7, 7, 7, 7, 7, 7, 7, 7, 7, 7, 7, 7, 7, 7, 7, 7, 7, 7, 7, 7, 7, 7, 7, 7, 7, 7, 7, 7, 7, 7, 7, 7, 7, 7, 7, 7, 7, 7, 7, 7, 7, 7, 7, 7, 7, 7, 7, 8, 8, 8, 8, 8, 8, 8, 8, 8, 8, 8, 8, 8, 8, 8, 8, 8, 8, 8, 8, 8, 8, 8, 8, 8, 8, 8, 8, 8, 8, 8, 8, 8, 8, 8, 8, 8, 8, 8, 8, 8, 8, 8, 8, 8, 8, 8, 8, 8, 8, 8, 8, 8, 8, 8, 8, 8, 8, 8, 8, 8, 8, 8, 8, 8, 8, 8, 8, 8, 8, 8, 8, 8, 8, 8, 8, 8, 8, 8, 8, 8, 8, 8, 8, 8, 8, 8, 8, 8, 8, 8, 8, 8, 8, 8, 8, 8, 8, 8, 8, 8, 8, 8, 8, 8, 8, 8, 8, 8, 8, 8, 8, 8, 8, 8, 8, 8, 8, 8, 8, 8, 8, 8, 8, 8, 8, 8, 8]).data.toList.getD (IntKind.u8.wrap (Int.fdiv x_ (2 ^ (min (32 : Int).toNat (IntKind.bits .u64))))).toNat 0).toNat : Int))))))
  else
    (bif (decide ((65536 : Int) ≤ x_)) then
      (bif (decide ((256 : Int) ≤ (Int.fdiv x_ (2 ^ (min (16 : Int).toNat (IntKind.bits .u64)))))) then
        (chkO (decide (0 ≤ (IntKind.u8.wrap (Int.fdiv (Int.fdiv x_ (2 ^ (min (16 : Int).toNat (IntKind.bits .u64)))) (2 ^ (min (8 : Int).toNat (IntKind.bits .u64)))))) && decide ((IntKind.u8.wrap (Int.fdiv (Int.fdiv x_ (2 ^ (min (16 : Int).toNat (IntKind.bits .u64)))) (2 ^ (min (8 : Int).toNat (IntKind.bits .u64))))) < ((ByteArray.mk #[0, 1, 2, 2, 3, 3, 3, 3, 4, 4, 4, 4, 4, 4, 4, 4, 5, 5, 5, 5, 5, 5, 5, 5, 5, 5, 5, 5, 5, 5, 5, 5, 6, 6, 6, 6, 6, 6, 6, 6, 6, 6, 6, 6, 6, 6, 6, 6, 6, 6, 6, 6, 6, 6, 6, 6, 6, 6, 6, 6, 6, 6, 6, 6, 7, 7, 7, 7, 7, 7, 7, 7, 7, 7, 7, 7, 7, 7, 7, 7, 7, 7, 7, 7, 7, 7, 7, 7, 7, 7, 7, 7, 7, 7, 7, 7, 7, 7, 7, 7, 7, 7, 7, 7, 7, 7, 7, 7, 7, 7, 7, 7, 7, 7, 7, 7, 7, 7, 7, 7, 7, 7, 7, 7, 7, 7, 7, 7, 8, 8, 8, 8, 8, 8, 8, 8, 8, 8, 8, 8, 8, 8, 8, 8, 8, 8, 8, 8, 8, 8, 8, 8, 8, 8, 8, 8, 8, 8, 8, 8, 8, 8, 8, 8, 8, 8, 8, 8, 8, 8, 8, 8, 8, 8, 8, 8, 8, 8, 8, 8, 8, 8, 8, 8, 8, 8, 8, 8, 8, 8, 8, 8, 8, 8, 8, 8, 8, 8, 8, 8, 8, 8, 8, 8, 8, 8, 8, 8, 8, 8, 8, 8, 8, 8, 8, 8, 8, 8, 8, 8, 8, 8, 8, 8, 8, 8, 8, 8, 8, 8, 8, 8, 8, 8, 8, 8, 8, 8, 8, 8, 8, 8, 8, 8, 8, 8, 8, 8, 8, 8, 8, 8, 8, 8, 8, 8]).size : Int)))).bind fun _ =>
        some (IntKind.i64.wrap ((IntKind.i64.wrap ((IntKind.i64.wrap ((0 : Int) + (16 : Int))) + (8 : Int))) + (IntKind.i64.wrap (((ByteArray.mk #[0, 1, 2, 2, 3, 3, 3, 3, 4, 4, 4, 4, 4, 4, 4, 4, 5, 5, 5, 5, 5, 5, 5, 5, 5, 5, 5, 5, 5, 5, 5, 5, 6, 6, 6, 6, 6, 6, 6, 6, 6, 6, 6, 6, 6, 6, 6, 6, 6, 6, 6, 6, 6, 6, 6, 6, 6, 6, 6, 6, 6, 6, 6, 6, 7, 7, 7, 7, 7, 7, 7, 7, 7, 7, 7, 7, 7, 7, 7, 7, 7, 7, 7, 7, 7, 7, 7, 7, 7, 7, 7, 7, 7, 7, 7, 7, 7, 7, 7, 7, 7, 7, 7, 7, 7, 7, 7, 7, 7, 7, 7, 7, 7, 7, 7, 7, 7, 7, 7, 7, 7, 7, 7, 7, 7, 7, 7, 7, 8, 8, 8, 8, 8, 8, 8, 8, 8, 8, 8, 8, 8, 8, 8, 8, 8, 8, 8, 8, 8, 8, 8, 8, 8, 8, 8, 8, 8, 8, 8, 8, 8, 8, 8, 8, 8, 8, 8, 8, 8, 8, 8, 8, 8, 8, 8, 8, 8, 8, 8, 8, 8, 8, 8, 8, 8, 8, 8, 8, 8, 8, 8, 8, 8, 8, 8, 8, 8, 8, 8, 8, 8, 8, 8, 8, 8, 8, 8, 8, 8, 8, 8, 8, 8, 8, 8, 8, 8, 8, 8, 8, 8, 8, 8, 8, 8, 8, 8, 8, 8, 8, 8, 8, 8, 8, 8, 8, 8, 8, 8, 8, 8, 8, 8, 8, 8, 8, 8, 8, 8, 8, 8, 8, 8, 8, 8, 8]).data.toList.getD (IntKind.u8.wrap (Int.fdiv (Int.fdiv x_ (2 ^ (min (16 : Int).toNat (IntKind.bits .u64)))) (2 ^ (min (8 : Int).toNat (IntKind.bits .u64))))).toNat 0).toNat : Int))))
      else
        (chkO (decide (0 ≤ (IntKind.u8.wrap (Int.fdiv x_ (2 ^ (min (16 : Int).toNat (IntKind.bits .u64)))))) && decide ((IntKind.u8.wrap (Int.fdiv x_ (2 ^ (min (16 : Int).toNat (IntKind.bits .u64))))) < ((ByteArray.mk #[0, 1, 2, 2, 3, 3, 3, 3, 4, 4, 4, 4, 4, 4, 4, 4, 5, 5, 5, 5, 5, 5, 5, 5, 5, 5, 5, 5, 5, 5, 5, 5, 6, 6, 6, 6, 6, 6, 6, 6, 6, 6, 6, 6, 6, 6, 6, 6, 6, 6, 6, 6, 6, 6, 6, 6, 6, 6, 6, 6, 6, 6, 6, 6, 7, 7, 7, 7, 7, 7, 7, 7, 7, 7, 7, 7, 7, 7, 7, 7, 7, 7, 7, 7, 7, 7, 7, 7, 7, 7, 7, 7, 7, 7, 7, 7, 7, 7, 7, 7, 7, 7, 7, 7, 7, 7, 7, 7, 7, 7, 7, 7, 7, 7, 7, 7, 7, 7, 7, 7, 7, 7, 7, 7, 7, 7, 7, 7, 8, 8, 8, 8, 8, 8, 8, 8, 8, 8, 8, 8, 8, 8, 8, 8, 8, 8, 8, 8, 8, 8, 8, 8, 8, 8, 8, 8, 8, 8, 8, 8, 8, 8, 8, 8, 8, 8, 8, 8, 8, 8, 8, 8, 8, 8, 8, 8, 8, 8, 8, 8, 8, 8, 8, 8, 8, 8, 8, 8, 8, 8, 8, 8, 8, 8, 8, 8, 8, 8, 8, 8, 8, 8, 8, 8, 8, 8, 8, 8, 8, 8, 8, 8, 8, 8, 8, 8, 8, 8, 8, 8, 8, 8, 8, 8, 8, 8, 8, 8, 8, 8, 8, 8, 8, 8, 8, 8, 8, 8, 8, 8, 8, 8, 8, 8, 8, 8, 8, 8, 8, 8, 8, 8, 8, 8, 8, 8]).size : Int)))).bind fun _ =>
        some (IntKind.i64.wrap ((IntKind.i64.wrap ((0 : Int) + (16 : Int))) + (IntKind.i64.wrap (((ByteArray.mk #[0, 1, 2, 2, 3, 3, 3, 3, 4, 4, 4, 4, 4, 4, 4, 4, 5, 5, 5, 5, 5, 5, 5, 5, 5, 5, 5, 5, 5, 5, 5, 5, 6, 6, 6, 6, 6, 6, 6, 6, 6, 6, 6, 6, 6, 6, 6, 6, 6, 6, 6, 6, 6, 6, 6, 6, 6, 6, 6, 6, 6, 6, 6, 6, 7, 7, 7, 7, 7, 7, 7, 7, 7, 7, 7, 7, 7, 7, 7, 7, 7, 7, 7, 7, 7, 7, 7, 7, 7, 7, 7, 7, 7, 7, 7, 7, 7, 7, 7, 7, 7, 7, 7, 7, 7, 7, 7, 7, 7, 7, 7, 7, 7, 7, 7, 7, 7, 7, 7, 7, 7, 7, 7, 7, 7, 7, 7, 7, 8, 8, 8, 8, 8, 8, 8, 8, 8, 8, 8, 8, 8, 8, 8, 8, 8, 8, 8, 8, 8, 8, 8, 8, 8, 8, 8, 8, 8, 8, 8, 8, 8, 8, 8, 8, 8, 8, 8, 8, 8, 8, 8, 8, 8, 8, 8, 8, 8, 8, 8, 8, 8, 8, 8, 8, 8, 8, 8, 8, 8, 8, 8, 8, 8, 8, 8, 8, 8, 8, 8, 8, 8, 8, 8, 8, 8, 8, 8, 8, 8, 8, 8, 8, 8, 8, 8, 8, 8, 8, 8, 8, 8, 8, 8, 8, 8, 8, 8, 8, 8, 8, 8, 8, 8, 8, 8, 8, 8, 8, 8, 8, 8, 8, 8, 8, 8, 8, 8, 8, 8, 8, 8, 8, 8, 8, 8, 8]).data.toList.getD (IntKind.u8.wrap (Int.fdiv x_ (2 ^ (min (16 : Int).toNat (IntKind.bits .u64))))).toNat 0).toNat : Int)))))
    else
      (bif (decide ((256 : Int) ≤ x_)) then
        (chkO (decide (0 ≤ (IntKind.u8.wrap (Int.fdiv x_ (2 ^ (min (8 : Int).toNat (IntKind.bits .u64)))))) && decide ((IntKind.u8.wrap (Int.fdiv x_ (2 ^ (min (8 : Int).toNat (IntKind.bits .u64))))) < ((ByteArray.mk #[0, 1, 2, 2, 3, 3, 3, 3, 4, 4, 4, 4, 4, 4, 4, 4, 5, 5, 5, 5, 5, 5, 5, 5, 5, 5, 5, 5, 5, 5, 5, 5, 6, 6, 6, 6, 6, 6, 6, 6, 6, 6, 6, 6, 6, 6, 6, 6, 6, 6, 6, 6, 6, 6, 6, 6, 6, 6, 6, 6, 6, 6, 6, 6, 7, 7, 7, 7, 7, 7, 7, 7, 7, 7, 7, 7, 7, 7, 7, 7, 7, 7, 7, 7, 7, 7, 7, 7, 7, 7, 7, 7, 7, 7, 7, 7, 7, 7, 7, 7, 7, 7, 7, 7, 7, 7, 7, 7, 7, 7, 7, 7, 7, 7, 7, 7, 7, 7, 7, 7, 7, 7, 7, 7, 7, 7, 7, 7, 8, 8, 8, 8, 8, 8, 8, 8, 8, 8, 8, 8, 8, 8, 8, 8, 8, 8, 8, 8, 8, 8, 8, 8, 8, 8, 8, 8, 8, 8, 8, 8, 8, 8, 8, 8, 8, 8, 8, 8, 8, 8, 8, 8, 8, 8, 8, 8, 8, 8, 8, 8, 8, 8, 8, 8, 8, 8, 8, 8, 8, 8, 8, 8, 8, 8, 8, 8, 8, 8, 8, 8, 8, 8, 8, 8, 8, 8, 8, 8, 8, 8, 8, 8, 8, 8, 8, 8, 8, 8, 8, 8, 8, 8, 8, 8, 8, 8, 8, 8, 8, 8, 8, 8, 8, 8, 8, 8, 8, 8, 8, 8, 8, 8, 8, 8, 8, 8, 8, 8, 8, 8, 8, 8, 8, 8, 8, 8]).size : Int)))).bind fun _ =>
        some (IntKind.i64.wrap ((IntKind.i64.wrap ((0 : Int) + (8 : Int))) + (IntKind.i64.wrap (((ByteArray.mk #[0, 1, 2, 2, 3, 3, 3, 3, 4, 4, 4, 4, 4, 4, 4, 4, 5, 5, 5, 5, 5, 5, 5, 5, 5, 5, 5, 5, 5, 5, 5, 5, 6, 6, 6, 6, 6, 6, 6, 6, 6, 6, 6, 6, 6, 6, 6, 6, 6, 6, 6, 6, 6, 6, 6, 6, 6, 6, 6, 6, 6, 6, 6, 6, 7, 7, 7, 7, 7, 7, 7, 7, 7, 7, 7, 7, 7, 7, 7, 7, 7, 7, 7, 7, 7, 7, 7, 7, 7, 7, 7, 7, 7, 7, 7, 7, 7, 7, 7, 7, 7, 7, 7, 7, 7, 7, 7, 7, 7, 7, 7, 7, 7, 7, 7, 7, 7, 7, 7, 7, 7, 7, 7, 7, 7, 7, 7, 7, 8, 8, 8, 8, 8, 8, 8, 8, 8, 8, 8, 8, 8, 8, 8, 8, 8, 8, 8, 8, 8, 8, 8, 8, 8, 8, 8, 8, 8, 8, 8, 8, 8, 8, 8, 8, 8, 8, 8, 8, 8, 8, 8, 8, 8, 8, 8, 8, 8, 8, 8, 8, 8, 8, 8, 8, 8, 8, 8, 8, 8, 8, 8, 8, 8, 8, 8, 8, 8, 8, 8, 8, 8, 8, 8, 8, 8, 8, 8, 8, 8, 8, 8, 8, 8, 8, 8, 8, 8, 8, 8, 8, 8, 8, 8, 8, 8, 8, 8, 8, 8, 8, 8, 8, 8, 8, 8, 8, 8, 8, 8, 8, 8, 8, 8, 8, 8, 8, 8, 8, 8, 8, 8, 8, 8, 8, 8, 8]).data.toList.getD (IntKind.u8.wrap (Int.fdiv x_ (2 ^ (min (8 : Int).toNat (IntKind.bits .u64))))).toNat 0).toNat : Int))))
      else
        (chkO (decide (0 ≤ (IntKind.u8.wrap x_)) && decide ((IntKind.u8.wrap x_) < ((ByteArray.mk #[0, 1, 2, 2, 3, 3, 3, 3, 4, 4, 4, 4, 4, 4, 4, 4, 5, 5, 5, 5, 5, 5, 5, 5, 5, 5, 5, 5, 5, 5, 5, 5, 6, 6, 6, 6, 6, 6, 6, 6, 6, 6, 6, 6, 6, 6, 6, 6, 6, 6, 6, 6, 6, 6, 6, 6, 6, 6, 6, 6, 6, 6, 6, 6, 7, 7, 7, 7, 7, 7, 7, 7, 7, 7, 7, 7, 7, 7, 7, 7, 7, 7, 7, 7, 7, 7, 7, 7, 7, 7, 7, 7, 7, 7, 7, 7, 7, 7, 7, 7, 7, 7, 7, 7, 7, 7, 7, 7, 7, 7, 7, 7, 7, 7, 7, 7, 7, 7, 7, 7, 7, 7, 7, 7, 7, 7, 7, 7, 8, 8, 8, 8, 8, 8, 8, 8, 8, 8, 8, 8, 8, 8, 8, 8, 8, 8, 8, 8, 8, 8, 8, 8, 8, 8, 8, 8, 8, 8, 8, 8, 8, 8, 8, 8, 8, 8, 8, 8, 8, 8, 8, 8, 8, 8, 8, 8, 8, 8, 8, 8, 8, 8, 8, 8, 8, 8, 8, 8, 8, 8, 8, 8, 8, 8, 8, 8, 8, 8, 8, 8, 8, 8, 8, 8, 8, 8, 8, 8, 8, 8, 8, 8, 8, 8, 8, 8, 8, 8, 8, 8, 8, 8, 8, 8, 8, 8, 8, 8, 8, 8, 8, 8, 8, 8, 8, 8, 8, 8, 8, 8, 8, 8, 8, 8, 8, 8, 8, 8, 8, 8, 8, 8, 8, 8, 8, 8]).size : Int)))).bind fun _ =>
        some (IntKind.i64.wrap ((0 : Int) + (IntKind.i64.wrap (((ByteArray.mk #[0, 1, 2, 2, 3, 3, 3, 3, 4, 4, 4, 4, 4, 4, 4, 4, 5, 5, 5, 5, 5, 5, 5, 5, 5, 5, 5, 5, 5, 5, 5, 5, 6, 6, 6, 6, 6, 6, 6, 6, 6, 6, 6, 6, 6, 6, 6, 6, 6, 6, 6, 6, 6, 6, 6, 6, 6, 6, 6, 6, 6, 6, 6, 6, 7, 7, 7, 7, 7, 7, 7, 7, 7, 7, 7, 7, 7, 7, 7, 7, 7, 7, 7, 7, 7, 7, 7, 7, 7, 7, 7, 7, 7, 7, 7, 7, 7, 7, 7, 7, 7, 7, 7, 7, 7, 7, 7, 7, 7, 7, 7, 7, 7, 7, 7, 7, 7, 7, 7, 7, 7, 7, 7, 7, 7, 7, 7, 7, 8, 8, 8, 8, 8, 8, 8, 8, 8, 8, 8, 8, 8, 8, 8, 8, 8, 8, 8, 8, 8, 8, 8, 8, 8, 8, 8, 8, 8, 8, 8, 8, 8, 8, 8, 8, 8, 8, 8, 8, 8, 8, 8, 8, 8, 8, 8, 8, 8, 8, 8, 8, 8, 8, 8, 8, 8, 8, 8, 8, 8, 8, 8, 8, 8, 8, 8, 8, 8, 8, 8, 8, 8, 8, 8, 8, 8, 8, 8, 8, 8, 8, 8, 8, 8, 8, 8, 8, 8, 8, 8, 8, 8, 8, 8, 8, 8, 8, 8, 8, 8, 8, 8, 8, 8, 8, 8, 8, 8, 8, 8, 8, 8, 8, 8, 8, 8, 8, 8, 8, 8, 8, 8, 8, 8, 8, 8, 8]).data.toList.getD (IntKind.u8.wrap x_).toNat 0).toNat : Int)))))))
theorem math_bits_Len64_fn {dr : Prop} {x_ : Int} {r : Int} (h : math_bits_Len64 x_ = some r) : Fn dr Try.prog 80 [.d (.v (.int .u64 x_))] (VI r) := by
  refine Fn.of_AW (dr := dr) (F := FnX dr Try.prog) (base := 0) (js := []) mixed tok noeqs (fun _ _ _ h => h) Try.call80 Try.func80 rfl Try.ntmps80 (by rw [Try.results80]) (by simp) ?_; have hG : (fun x => x = r) r := rfl; unfold math_bits_Len64 at h; refine Zac 12 rfl ?_; refine A.condB rfl h (fun _ h => ?_) (fun _ h => ?_)
  · refine Zcp 3 rfl ?_; refine Y1 rfl ?_; refine W.chk rfl (by decide) ?_; refine Zwc 15 rfl ?_; refine A.condB rfl h (fun _ h => ?_) (fun _ h => ?_)
    · refine Zcp 3 rfl ?_; refine Y1 rfl ?_; refine W.chk rfl (by decide) ?_; refine Zwc 17 rfl ?_; refine A.condB rfl h (fun _ h => ?_) (fun _ h => ?_)
      · refine Zcp 3 rfl ?_; refine Y1 rfl ?_; refine W.chk rfl (by decide) ?_; refine Zwp 15 rfl ?_; refine Y1 rfl ?_; refine chkK h fun g1 h => ?_; refine W.chk rfl (by simpa using g1) ?_; refine W.det (.d (.v (.int .u8 (((ByteArray.mk #[0, 1, 2, 2, 3, 3, 3, 3, 4, 4, 4, 4, 4, 4, 4, 4, 5, 5, 5, 5, 5, 5, 5, 5, 5, 5, 5, 5, 5, 5, 5, 5, 6, 6, 6, 6, 6, 6, 6, 6, 6, 6, 6, 6, 6, 6, 6, 6, 6, 6, 6, 6, 6, 6, 6, 6, 6, 6, 6, 6, 6, 6, 6, 6, 7, 7, 7, 7, 7, 7, 7, 7, 7, 7, 7, 7, 7, 7, 7, 7, 7, 7, 7, 7, 7, 7, 7, 7, 7, 7, 7, 7, 7, 7, 7, 7, 7, 7, 7, 7, 7, 7, 7, 7, 7, 7, 7, 7, 7, 7, 7, 7, 7, 7, 7, 7, 7, 7, 7, 7, 7, 7, 7, 7, 7, 7, 7, 7, 8, 8, 8, 8, 8, 8, 8, 8, 8, 8, 8, 8, 8, 8, 8, 8, 8, 8, 8, 8, 8, 8, 8, 8, 8, 8, 8, 8, 8, 8, 8, 8, 8, 8, 8, 8, 8, 8, 8, 8, 8, 8, 8, 8, 8, 8, 8, 8, 8, 8, 8, 8, 8, 8, 8, 8, 8, 8, 8, 8, 8, 8, 8, 8, 8, 8, 8, 8, 8, 8, 8, 8, 8, 8, 8, 8, 8, 8, 8, 8, 8, 8, 8, 8, 8, 8, 8, 8, 8, 8, 8, 8, 8, 8, 8, 8, 8, 8, 8, 8, 8, 8, 8, 8, 8, 8, 8, 8, 8, 8, 8, 8, 8, 8, 8, 8, 8, 8, 8, 8, 8, 8, 8, 8, 8, 8, 8, 8]).data.toList.getD (IntKind.u8.wrap (Int.fdiv (Int.fdiv (Int.fdiv x_ (2 ^ (min (32 : Int).toNat (IntKind.bits .u64)))) (2 ^ (min (16 : Int).toNat (IntKind.bits .u64)))) (2 ^ (min (8 : Int).toNat (IntKind.bits .u64))))).toNat 0).toNat : Int)))) _ rfl ?_; refine Zpb 6 rfl ?_; cases h; cases hG; exact ⟨rfl, trivial⟩
      · refine Zcp 7 rfl ?_; refine Y1 rfl ?_; refine chkK h fun g2 h => ?_; refine W.chk rfl (by simpa using g2) ?_; refine W.det (.d (.v (.int .u8 (((ByteArray.mk #[0, 1, 2, 2, 3, 3, 3, 3, 4, 4, 4, 4, 4, 4, 4, 4, 5, 5, 5, 5, 5, 5, 5, 5, 5, 5, 5, 5, 5, 5, 5, 5, 6, 6, 6, 6, 6, 6, 6, 6, 6, 6, 6, 6, 6, 6, 6, 6, 6, 6, 6, 6, 6, 6, 6, 6, 6, 6, 6, 6, 6, 6, 6, 6, 7, 7, 7, 7, 7, 7, 7, 7, 7, 7, 7, 7, 7, 7, 7, 7, 7, 7, 7, 7, 7, 7, 7, 7, 7, 7, 7, 7, 7, 7, 7, 7, 7, 7, 7, 7, 7, 7, 7, 7, 7, 7, 7, 7, 7, 7, 7, 7, 7, 7, 7, 7, 7, 7, 7, 7, 7, 7, 7, 7, 7, 7, 7, 7, 8, 8, 8, 8, 8, 8, 8, 8, 8, 8, 8, 8, 8, 8, 8, 8, 8, 8, 8, 8, 8, 8, 8, 8, 8, 8, 8, 8, 8, 8, 8, 8, 8, 8, 8, 8, 8, 8, 8, 8, 8, 8, 8, 8, 8, 8, 8, 8, 8, 8, 8, 8, 8, 8, 8, 8, 8, 8, 8, 8, 8, 8, 8, 8, 8, 8, 8, 8, 8, 8, 8, 8, 8, 8, 8, 8, 8, 8, 8, 8, 8, 8, 8, 8, 8, 8, 8, 8, 8, 8, 8, 8, 8, 8, 8, 8, 8, 8, 8, 8, 8, 8, 8, 8, 8, 8, 8, 8, 8, 8, 8, 8, 8, 8, 8, 8, 8, 8, 8, 8, 8, 8, 8, 8, 8, 8, 8, 8]).data.toList.getD (IntKind.u8.wrap (Int.fdiv (Int.fdiv x_ (2 ^ (min (32 : Int).toNat (IntKind.bits .u64)))) (2 ^ (min (16 : Int).toNat (IntKind.bits .u64))))).toNat 0).toNat : Int)))) _ rfl ?_; refine Zpb 6 rfl ?_; cases h; cases hG; exact ⟨rfl, trivial⟩
    · refine Zcc 9 rfl ?_; refine A.condB rfl h (fun _ h => ?_) (fun _ h => ?_)
      · refine Zcp 3 rfl ?_; refine Y1 rfl ?_; refine W.chk rfl (by decide) ?_; refine Zwp 15 rfl ?_; refine Y1 rfl ?_; refine chkK h fun g3 h => ?_; refine W.chk rfl (by simpa using g3) ?_; refine W.det (.d (.v (.int .u8 (((ByteArray.mk #[0, 1, 2, 2, 3, 3, 3, 3, 4, 4, 4, 4, 4, 4, 4, 4, 5, 5, 5, 5, 5, 5, 5, 5, 5, 5, 5, 5, 5, 5, 5, 5, 6, 6, 6, 6, 6, 6, 6, 6, 6, 6, 6, 6, 6, 6, 6, 6, 6, 6, 6, 6, 6, 6, 6, 6, 6, 6, 6, 6, 6, 6, 6, 6, 7, 7, 7, 7, 7, 7, 7, 7, 7, 7, 7, 7, 7, 7, 7, 7, 7, 7, 7, 7, 7, 7, 7, 7, 7, 7, 7, 7, 7, 7, 7, 7, 7, 7, 7, 7, 7, 7, 7, 7, 7, 7, 7, 7, 7, 7, 7, 7, 7, 7, 7, 7, 7, 7, 7, 7, 7, 7, 7, 7, 7, 7, 7, 7, 8, 8, 8, 8, 8, 8, 8, 8, 8, 8, 8, 8, 8, 8, 8, 8, 8, 8, 8, 8, 8, 8, 8, 8, 8, 8, 8, 8, 8, 8, 8, 8, 8, 8, 8, 8, 8, 8, 8, 8, 8, 8, 8, 8, 8, 8, 8, 8, 8, 8, 8, 8, 8, 8, 8, 8, 8, 8, 8, 8, 8, 8, 8, 8, 8, 8, 8, 8, 8, 8, 8, 8, 8, 8, 8, 8, 8, 8, 8, 8, 8, 8, 8, 8, 8, 8, 8, 8, 8, 8, 8, 8, 8, 8, 8, 8, 8, 8, 8, 8, 8, 8, 8, 8, 8, 8, 8, 8, 8, 8, 8, 8, 8, 8, 8, 8, 8, 8, 8, 8, 8, 8, 8, 8, 8, 8, 8, 8]).data.toList.getD (IntKind.u8.wrap (Int.fdiv (Int.fdiv x_ (2 ^ (min (32 : Int).toNat (IntKind.bits .u64)))) (2 ^ (min (8 : Int).toNat (IntKind.bits .u64))))).toNat 0).toNat : Int)))) _ rfl ?_; refine Zpb 6 rfl ?_; cases h; cases hG; exact ⟨rfl, trivial⟩
      · refine Zcp 7 rfl ?_; refine Y1 rfl ?_; refine chkK h fun g4 h => ?_; refine W.chk rfl (by simpa using g4) ?_; refine W.det (.d (.v (.int .u8 (((ByteArray.mk #[0, 1, 2, 2, 3, 3, 3, 3, 4, 4, 4, 4, 4, 4, 4, 4, 5, 5, 5, 5, 5, 5, 5, 5, 5, 5, 5, 5, 5, 5, 5, 5, 6, 6, 6, 6, 6, 6, 6, 6, 6, 6, 6, 6, 6, 6, 6, 6, 6, 6, 6, 6, 6, 6, 6, 6, 6, 6, 6, 6, 6, 6, 6, 6, 7, 7, 7, 7, 7, 7, 7, 7, 7, 7, 7, 7, 7, 7, 7, 7, 7, 7, 7, 7, 7, 7, 7, 7, 7, 7, 7, 7, 7, 7, 7, 7, 7, 7, 7, 7, 7, 7, 7, 7, 7, 7, 7, 7, 7, 7, 7, 7, 7, 7, 7, 7, 7, 7, 7, 7, 7, 7, 7, 7, 7, 7, 7, 7, 8, 8, 8, 8, 8, 8, 8, 8, 8, 8, 8, 8, 8, 8, 8, 8, 8, 8, 8, 8, 8, 8, 8, 8, 8, 8, 8, 8, 8, 8, 8, 8, 8, 8, 8, 8, 8, 8, 8, 8, 8, 8, 8, 8, 8, 8, 8, 8, 8, 8, 8, 8, 8, 8, 8, 8, 8, 8, 8, 8, 8, 8, 8, 8, 8, 8, 8, 8, 8, 8, 8, 8, 8, 8, 8, 8, 8, 8, 8, 8, 8, 8, 8, 8, 8, 8, 8, 8, 8, 8, 8, 8, 8, 8, 8, 8, 8, 8, 8, 8, 8, 8, 8, 8, 8, 8, 8, 8, 8, 8, 8, 8, 8, 8, 8, 8, 8, 8, 8, 8, 8, 8, 8, 8, 8, 8, 8, 8]).data.toList.getD (IntKind.u8.wrap (Int.fdiv x_ (2 ^ (min (32 : Int).toNat (IntKind.bits .u64))))).toNat 0).toNat : Int)))) _ rfl ?_; refine Zpb 6 rfl ?_; cases h; cases hG; exact ⟨rfl, trivial⟩
  · refine Zcc 9 rfl ?_; refine A.condB rfl h (fun _ h => ?_) (fun _ h => ?_)
    · refine Zcp 3 rfl ?_; refine Y1 rfl ?_; refine W.chk rfl (by decide) ?_; refine Zwc 17 rfl ?_; refine A.condB rfl h (fun _ h => ?_) (fun _ h => ?_)
      · refine Zcp 3 rfl ?_; refine Y1 rfl ?_; refine W.chk rfl (by decide) ?_; refine Zwp 15 rfl ?_; refine Y1 rfl ?_; refine chkK h fun g5 h => ?_; refine W.chk rfl (by simpa using g5) ?_; refine W.det (.d (.v (.int .u8 (((ByteArray.mk #[0, 1, 2, 2, 3, 3, 3, 3, 4, 4, 4, 4, 4, 4, 4, 4, 5, 5, 5, 5, 5, 5, 5, 5, 5, 5, 5, 5, 5, 5, 5, 5, 6, 6, 6, 6, 6, 6, 6, 6, 6, 6, 6, 6, 6, 6, 6, 6, 6, 6, 6, 6, 6, 6, 6, 6, 6, 6, 6, 6, 6, 6, 6, 6, 7, 7, 7, 7, 7, 7, 7, 7, 7, 7, 7, 7, 7, 7, 7, 7, 7, 7, 7, 7, 7, 7, 7, 7, 7, 7, 7, 7, 7, 7, 7, 7, 7, 7, 7, 7, 7, 7, 7, 7, 7, 7, 7, 7, 7, 7, 7, 7, 7, 7, 7, 7, 7, 7, 7, 7, 7, 7, 7, 7, 7, 7, 7, 7, 8, 8, 8, 8, 8, 8, 8, 8, 8, 8, 8, 8, 8, 8, 8, 8, 8, 8, 8, 8, 8, 8, 8, 8, 8, 8, 8, 8, 8, 8, 8, 8, 8, 8, 8, 8, 8, 8, 8, 8, 8, 8, 8, 8, 8, 8, 8, 8, 8, 8, 8, 8, 8, 8, 8, 8, 8, 8, 8, 8, 8, 8, 8, 8, 8, 8, 8, 8, 8, 8, 8, 8, 8, 8, 8, 8, 8, 8, 8, 8, 8, 8, 8, 8, 8, 8, 8, 8, 8, 8, 8, 8, 8, 8, 8, 8, 8, 8, 8, 8, 8, 8, 8, 8, 8, 8, 8, 8, 8, 8, 8, 8, 8, 8, 8, 8, 8, 8, 8, 8, 8, 8, 8, 8, 8, 8, 8, 8]).data.toList.getD (IntKind.u8.wrap (Int.fdiv (Int.fdiv x_ (2 ^ (min (16 : Int).toNat (IntKind.bits .u64)))) (2 ^ (min (8 : Int).toNat (IntKind.bits .u64))))).toNat 0).toNat : Int)))) _ rfl ?_; refine Zpb 6 rfl ?_; cases h; cases hG; exact ⟨rfl, trivial⟩
      · refine Zcp 7 rfl ?_; refine Y1 rfl ?_; refine chkK h fun g6 h => ?_; refine W.chk rfl (by simpa using g6) ?_; refine W.det (.d (.v (.int .u8 (((ByteArray.mk #[0, 1, 2, 2, 3, 3, 3, 3, 4, 4, 4, 4, 4, 4, 4, 4, 5, 5, 5, 5, 5, 5, 5, 5, 5, 5, 5, 5, 5, 5, 5, 5, 6, 6, 6, 6, 6, 6, 6, 6, 6, 6, 6, 6, 6, 6, 6, 6, 6, 6, 6, 6, 6, 6, 6, 6, 6, 6, 6, 6, 6, 6, 6, 6, 7, 7, 7, 7, 7, 7, 7, 7, 7, 7, 7, 7, 7, 7, 7, 7, 7, 7, 7, 7, 7, 7, 7, 7, 7, 7, 7, 7, 7, 7, 7, 7, 7, 7, 7, 7, 7, 7, 7, 7, 7, 7, 7, 7, 7, 7, 7, 7, 7, 7, 7, 7, 7, 7, 7, 7, 7, 7, 7, 7, 7, 7, 7, 7, 8, 8, 8, 8, 8, 8, 8, 8, 8, 8, 8, 8, 8, 8, 8, 8, 8, 8, 8, 8, 8, 8, 8, 8, 8, 8, 8, 8, 8, 8, 8, 8, 8, 8, 8, 8, 8, 8, 8, 8, 8, 8, 8, 8, 8, 8, 8, 8, 8, 8, 8, 8, 8, 8, 8, 8, 8, 8, 8, 8, 8, 8, 8, 8, 8, 8, 8, 8, 8, 8, 8, 8, 8, 8, 8, 8, 8, 8, 8, 8, 8, 8, 8, 8, 8, 8, 8, 8, 8, 8, 8, 8, 8, 8, 8, 8, 8, 8, 8, 8, 8, 8, 8, 8, 8, 8, 8, 8, 8, 8, 8, 8, 8, 8, 8, 8, 8, 8, 8, 8, 8, 8, 8, 8, 8, 8, 8, 8]).data.toList.getD (IntKind.u8.wrap (Int.fdiv x_ (2 ^ (min (16 : Int).toNat (IntKind.bits .u64))))).toNat 0).toNat : Int)))) _ rfl ?_; refine Zpb 6 rfl ?_; cases h; cases hG; exact ⟨rfl, trivial⟩
    · refine Zcc 9 rfl ?_; refine A.condB rfl h (fun _ h => ?_) (fun _ h => ?_)
      · refine Zcp 3 rfl ?_; refine Y1 rfl ?_; refine W.chk rfl (by decide) ?_; refine Zwp 15 rfl ?_; refine Y1 rfl ?_; refine chkK h fun g7 h => ?_; refine W.chk rfl (by simpa using g7) ?_; refine W.det (.d (.v (.int .u8 (((ByteArray.mk #[0, 1, 2, 2, 3, 3, 3, 3, 4, 4, 4, 4, 4, 4, 4, 4, 5, 5, 5, 5, 5, 5, 5, 5, 5, 5, 5, 5, 5, 5, 5, 5, 6, 6, 6, 6, 6, 6, 6, 6, 6, 6, 6, 6, 6, 6, 6, 6, 6, 6, 6, 6, 6, 6, 6, 6, 6, 6, 6, 6, 6, 6, 6, 6, 7, 7, 7, 7, 7, 7, 7, 7, 7, 7, 7, 7, 7, 7, 7, 7, 7, 7, 7, 7, 7, 7, 7, 7, 7, 7, 7, 7, 7, 7, 7, 7, 7, 7, 7, 7, 7, 7, 7, 7, 7, 7, 7, 7, 7, 7, 7, 7, 7, 7, 7, 7, 7, 7, 7, 7, 7, 7, 7, 7, 7, 7, 7, 7, 8, 8, 8, 8, 8, 8, 8, 8, 8, 8, 8, 8, 8, 8, 8, 8, 8, 8, 8, 8, 8, 8, 8, 8, 8, 8, 8, 8, 8, 8, 8, 8, 8, 8, 8, 8, 8, 8, 8, 8, 8, 8, 8, 8, 8, 8, 8, 8, 8, 8, 8, 8, 8, 8, 8, 8, 8, 8, 8, 8, 8, 8, 8, 8, 8, 8, 8, 8, 8, 8, 8, 8, 8, 8, 8, 8, 8, 8, 8, 8, 8, 8, 8, 8, 8, 8, 8, 8, 8, 8, 8, 8, 8, 8, 8, 8, 8, 8, 8, 8, 8, 8, 8, 8, 8, 8, 8, 8, 8, 8, 8, 8, 8, 8, 8, 8, 8, 8, 8, 8, 8, 8, 8, 8, 8, 8, 8, 8]).data.toList.getD (IntKind.u8.wrap (Int.fdiv x_ (2 ^ (min (8 : Int).toNat (IntKind.bits .u64))))).toNat 0).toNat : Int)))) _ rfl ?_; refine Zpb 6 rfl ?_; cases h; cases hG; exact ⟨rfl, trivial⟩
      · refine Zcp 7 rfl ?_; refine Y1 rfl ?_; refine chkK h fun g8 h => ?_; refine W.chk rfl (by simpa using g8) ?_; refine W.det (.d (.v (.int .u8 (((ByteArray.mk #[0, 1, 2, 2, 3, 3, 3, 3, 4, 4, 4, 4, 4, 4, 4, 4, 5, 5, 5, 5, 5, 5, 5, 5, 5, 5, 5, 5, 5, 5, 5, 5, 6, 6, 6, 6, 6, 6, 6, 6, 6, 6, 6, 6, 6, 6, 6, 6, 6, 6, 6, 6, 6, 6, 6, 6, 6, 6, 6, 6, 6, 6, 6, 6, 7, 7, 7, 7, 7, 7, 7, 7, 7, 7, 7, 7, 7, 7, 7, 7, 7, 7, 7, 7, 7, 7, 7, 7, 7, 7, 7, 7, 7, 7, 7, 7, 7, 7, 7, 7, 7, 7, 7, 7, 7, 7, 7, 7, 7, 7, 7, 7, 7, 7, 7, 7, 7, 7, 7, 7, 7, 7, 7, 7, 7, 7, 7, 7, 8, 8, 8, 8, 8, 8, 8, 8, 8, 8, 8, 8, 8, 8, 8, 8, 8, 8, 8, 8, 8, 8, 8, 8, 8, 8, 8, 8, 8, 8, 8, 8, 8, 8, 8, 8, 8, 8, 8, 8, 8, 8, 8, 8, 8, 8, 8, 8, 8, 8, 8, 8, 8, 8, 8, 8, 8, 8, 8, 8, 8, 8, 8, 8, 8, 8, 8, 8, 8, 8, 8, 8, 8, 8, 8, 8, 8, 8, 8, 8, 8, 8, 8, 8, 8, 8, 8, 8, 8, 8, 8, 8, 8, 8, 8, 8, 8, 8, 8, 8, 8, 8, 8, 8, 8, 8, 8, 8, 8, 8, 8, 8, 8, 8, 8, 8, 8, 8, 8, 8, 8, 8, 8, 8, 8, 8, 8, 8]).data.toList.getD (IntKind.u8.wrap x_).toNat 0).toNat : Int)))) _ rfl ?_; refine Zpb 6 rfl ?_; cases h; cases hG; exact ⟨rfl, trivial⟩
noncomputable def math_bits_Len (x_ : Int) : Option (Int) :=
  (math_bits_Len64 x_).bind fun y1 =>
  some y1
theorem math_bits_Len_fn {dr : Prop} {x_ : Int} {r : Int} (h : math_bits_Len x_ = some r) : Fn dr Try.prog 64 [.d (.v (.int .u64 x_))] (VI r) := by
  refine Fn.of_AW (dr := dr) (F := FnX dr Try.prog) (base := 0) (js := []) mixed tok noeqs (fun _ _ _ h => h) Try.call64 Try.func64 rfl Try.ntmps64 (by rw [Try.results64]) (by simp) ?_; have hG : (fun x => x = r) r := rfl; unfold math_bits_Len at h; refine Zap 12 rfl ?_; refine Y1 rfl ?_; refine bindK h fun y1 hy1 h => ?_; refine W.call rfl (math_bits_Len64_fn hy1) ?_; refine Zwb 5 rfl ?_; cases h; cases hG; exact ⟨rfl, trivial⟩
theorem slices_SortFunc_int_int_fn {dr : Prop} {c : Int → Int → Option Int} {cF : FuncId} {cC : List AV} (cH : cC.all capd = true) (cP : ∀ (q0 q1 : Int) (z : Int), c q0 q1 = some z → Fn True Try.prog cF ([VI q0, VI q1] ++ cC) (VI z)) {l r : List Int} (h : sortI c l = some r) : FnW dr Try.prog 51 1 (List.map (encI .i64) l) [.fn cF cC] (.ow 1 (List.map (encI .i64) r)) :=
  sortI_fnw Try.call51 (fun α _ enc h1 cf hO g cb blk off cap d w eg hcmp hH hblk hsz => Any.slices_SortFunc Try.sort51 enc h1 cf hO g cb blk off cap d w eg hcmp hH hblk hsz) (fun p cap fv w => AnyF.slices_SortFunc_none Try.sort51n p cap fv w) cH cP h
end Go.Proofs.Ytlgadmholjaljaa
