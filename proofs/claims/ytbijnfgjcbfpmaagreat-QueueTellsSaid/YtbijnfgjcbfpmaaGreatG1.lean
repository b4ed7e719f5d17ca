/-
  Plain programs of functions, and that the functions do what they say. Printed by wip/tools/gen.py.
-/
import Derived.Test.YtbijnfgjcbfpmaaGreatTy
import Derived.Test.YtbijnfgjcbfpmaaGreatEvS
import Derived.Test.YtbijnfgjcbfpmaaGreatEvZ
import Derived.Test.YtbijnfgjcbfpmaaGreatEvW1
import Derived.Test.YtbijnfgjcbfpmaaGreatEvY
import Derived.Test.YtbijnfgjcbfpmaaGreatShelf
namespace Go.Proofs.YtbijnfgjcbfpmaaGreat
open Go.RowKit
attribute [local irreducible] IntKind.wrap AW runL Step.wp
set_option linter.unusedVariables false
set_option maxHeartbeats 4000000
set_option maxRecDepth 100000
structure api_Profile where
  Name : ByteArray
  Edit : Int
  Within : Int
  Delete : Int
  React : Bool
  Thread : Int
  Quote : Bool
  Mention : Bool
  Size : Int
  Parts : Int
  Files : Int
  Bytes : Int
  Types : (List ByteArray)
  Join : Int
  History : Int
  Remove : Int
  Level : Int
  Batch : Bool
  Rate : Int
  Down : Int
  Window : Int
  Keep : Int
def api_Profile.enc (x : api_Profile) : List D := [.v (.string x.Name), .v (.int .i64 x.Edit), .v (.int .i64 x.Within), .v (.int .i64 x.Delete), .v (.bool x.React), .v (.int .i64 x.Thread), .v (.bool x.Quote), .v (.bool x.Mention), .v (.int .i64 x.Size), .v (.int .i64 x.Parts), .v (.int .i64 x.Files), .v (.int .i64 x.Bytes), .fz (List.map encS x.Types), .v (.int .i64 x.Join), .v (.int .i64 x.History), .v (.int .i64 x.Remove), .v (.int .i64 x.Level), .v (.bool x.Batch), .v (.int .i64 x.Rate), .v (.int .i64 x.Down), .v (.int .i64 x.Window), .v (.int .i64 x.Keep)]
abbrev api_Profile.av (x : api_Profile) : List AV := [VS x.Name, VI x.Edit, VI x.Within, VI x.Delete, VB x.React, VI x.Thread, VB x.Quote, VB x.Mention, VI x.Size, VI x.Parts, VI x.Files, VI x.Bytes, VF (List.map encS x.Types), VI x.Join, VI x.History, VI x.Remove, VI x.Level, VB x.Batch, VI x.Rate, VI x.Down, VI x.Window, VI x.Keep]
noncomputable def law30_link : Option (api_Profile) :=
  some (api_Profile.mk (ByteArray.mk #[110]) (0 : Int) (0 : Int) (0 : Int) false (0 : Int) false false (40 : Int) (1 : Int) (0 : Int) (0 : Int) ([] : List ByteArray) (0 : Int) (0 : Int) (0 : Int) (0 : Int) false (2 : Int) (1 : Int) (3 : Int) (0 : Int))
theorem law30_link_fn {r : api_Profile} (h : law30_link = some r) : Fn Tryz.prog 14 [] (.agg [VS r.Name, VI r.Edit, VI r.Within, VI r.Delete, VB r.React, VI r.Thread, VB r.Quote, VB r.Mention, VI r.Size, VI r.Parts, VI r.Files, VI r.Bytes, .ow 1 (List.map encS r.Types), VI r.Join, VI r.History, VI r.Remove, VI r.Level, VB r.Batch, VI r.Rate, VI r.Down, VI r.Window, VI r.Keep]) := by
  refine Fn.of_AW (F := FnX Tryz.prog) (base := 0) (js := []) mixed tok noeqs (fun _ _ _ h => h) Tryz.call14 Tryz.func14 rfl Tryz.ntmps14 (by rw [Tryz.results14]) (by simp) ?_; have hG : (fun x => x = r) r := rfl; unfold law30_link at h; refine Zap 2 rfl ?_; refine Zm (.lp 0 1 0) (Mem.add (Mem.add _ 851968 (.rows 1 (List.map encS ([] : List ByteArray)) false)) 0 (.box [VS (ByteArray.mk #[]), VI 0, VI 0, VI 0, VB false, VI 0, VB false, VB false, VI 0, VI 0, VI 0, VI 0, .row 851968 1 0, VI 0, VI 0, VI 0, VI 0, VB false, VI 0, VI 0, VI 0, VI 0])) rfl rfl ?_; refine Zpp 4 rfl ?_; refine Zo (.agg [VS (ByteArray.mk #[110]), VI 0, VI 0, VI 0, VB false, VI 0, VB false, VB false, VI 40, VI 1, VI 0, VI 0, .nl, VI 0, VI 0, VI 0, VI 0, VB false, VI 2, VI 1, VI 3, VI 0]) rfl rfl ?_; refine Zm (.tup []) (Mem.set (Mem.add _ 1900544 (.rows 1 (List.map encS ([] : List ByteArray)) false)) 0 1 (some (.box [VS (ByteArray.mk #[110]), VI 0, VI 0, VI 0, VB false, VI 0, VB false, VB false, VI 40, VI 1, VI 0, VI 0, .row 1900544 1 0, VI 0, VI 0, VI 0, VI 0, VB false, VI 2, VI 1, VI 3, VI 0]))) rfl rfl ?_; refine Zpb 3 rfl ?_; cases h; cases hG; exact ⟨rfl, rfl, rfl, rfl, rfl, rfl, rfl, rfl, rfl, rfl, rfl, rfl, rfl, rfl, rfl, rfl, rfl, rfl, rfl, rfl, rfl, rfl, rfl, trivial⟩
structure api_Waiting where
  Event : Int
  Net : Int
  Left : Int
  Due : Int
def api_Waiting.enc (x : api_Waiting) : List D := [.v (.int .i64 x.Event), .v (.int .i64 x.Net), .v (.int .i64 x.Left), .v (.int .i64 x.Due)]
abbrev api_Waiting.av (x : api_Waiting) : List AV := [VI x.Event, VI x.Net, VI x.Left, VI x.Due]
noncomputable def slices_Clone_api_Waiting_api_Waiting_a : Option ((List api_Waiting)) :=
  some ([] : List api_Waiting)
theorem slices_Clone_api_Waiting_api_Waiting_a_fn {r : (List api_Waiting)} (h : slices_Clone_api_Waiting_api_Waiting_a = some r) : Fn Tryz.prog 15 [.d (.v (.slice none 0 0))] (.ow 4 (List.map api_Waiting.enc r)) := by
  refine Fn.of_AW (F := FnX Tryz.prog) (base := 0) (js := []) mixed tok noeqs (fun _ _ _ h => h) Tryz.call15 Tryz.func15 rfl Tryz.ntmps15 (by rw [Tryz.results15]) (by simp) ?_; have hG : (fun x => x = r) r := rfl; unfold slices_Clone_api_Waiting_api_Waiting_a at h; refine Zap 2 rfl ?_; refine Zm (.row 2 1 0) (Mem.add _ 2 (.rows 4 (List.map api_Waiting.enc ([] : List api_Waiting)) false)) rfl rfl ?_; refine Zpp 5 rfl ?_; refine Zo (.d (.v (.slice none 0 0))) rfl rfl ?_; refine Zpp 6 rfl ?_; refine Zm (.row 2 2 0) (Mem.add _ 2 (.rows 4 (List.map api_Waiting.enc ([] : List api_Waiting)) false)) rfl rfl ?_; refine Zpb 4 rfl ?_; cases h; cases hG; exact ⟨rfl, rfl, trivial⟩
noncomputable def slices_Clone_api_Waiting_api_Waiting_b (a_ : Addr) (c_ : Nat) : Option ((List api_Waiting)) :=
  (chkO (decide (0 + ([] : List api_Waiting).length ≤ 1000000))).bind fun _ =>
  some (([] : List api_Waiting) ++ ([] : List api_Waiting))
theorem slices_Clone_api_Waiting_api_Waiting_b_fn {a_ : Addr} {c_ : Nat} {r : (List api_Waiting)} (h : slices_Clone_api_Waiting_api_Waiting_b a_ c_ = some r) : Fn Tryz.prog 15 [.d (.v (.slice (some a_) 0 c_))] (.ow 4 (List.map api_Waiting.enc r)) := by
  refine Fn.of_AW (F := FnX Tryz.prog) (base := 0) (js := []) mixed tok noeqs (fun _ _ _ h => h) Tryz.call15 Tryz.func15 rfl Tryz.ntmps15 (by rw [Tryz.results15]) (by simp) ?_; have hG : (fun x => x = r) r := rfl; unfold slices_Clone_api_Waiting_api_Waiting_b at h; refine Zap 2 rfl ?_; refine Zm (.row 2 1 0) (Mem.add _ 2 (.rows 4 (List.map api_Waiting.enc ([] : List api_Waiting)) false)) rfl rfl ?_; refine Zpp 5 rfl ?_; refine Zo (.d (.v (.slice (some a_) 0 c_))) rfl rfl ?_; refine Zpp 8 rfl ?_; refine Zm (.row 5 1 0) (Mem.add _ 5 (.rows 4 (List.map api_Waiting.enc ([] : List api_Waiting)) false)) rfl rfl ?_; refine Zo (.d (.v (.slice (some a_) 0 c_))) rfl rfl ?_; refine Y1 rfl ?_; refine chkK h fun g1 h => ?_; refine W.chk rfl ⟨fun _ hc => (by cases hc), of_decide_eq_true g1⟩ ?_; refine W.rows (0 + (List.map api_Waiting.enc ([] : List api_Waiting)).length) (([] : List api_Waiting) ++ ([] : List api_Waiting)).length ([] ++ (List.map api_Waiting.enc ([] : List api_Waiting))) (List.map api_Waiting.enc (([] : List api_Waiting) ++ ([] : List api_Waiting))) rfl (by first | rfl | (simp; done) | simp only [partMap, List.length_map, List.length_append, List.nil_append, Nat.zero_add, List.length_nil]) (by first | rfl | (simp; done) | simp only [partMap, List.map_append, List.nil_append, List.map_nil]) ?_; refine Zo (.row 5 2 (([] : List api_Waiting) ++ ([] : List api_Waiting)).length) rfl rfl ?_; refine Zpb 3 rfl ?_; cases h; cases hG; exact ⟨rfl, rfl, trivial⟩
noncomputable def slices_Clone_api_Waiting_api_Waiting_c (x_ : api_Waiting) (s_ : (List api_Waiting)) : Option ((List api_Waiting)) :=
  (chkO (decide (0 + (x_ :: s_).length ≤ 1000000))).bind fun _ =>
  some (([] : List api_Waiting) ++ (x_ :: s_))
theorem slices_Clone_api_Waiting_api_Waiting_c_fn {x_ : api_Waiting} {s_ : (List api_Waiting)} {r : (List api_Waiting)} (h : slices_Clone_api_Waiting_api_Waiting_c x_ s_ = some r) : Fn Tryz.prog 15 [VF (List.map api_Waiting.enc (x_ :: s_))] (.ow 4 (List.map api_Waiting.enc r)) := by
  refine Fn.of_AW (F := FnX Tryz.prog) (base := 0) (js := []) mixed tok noeqs (fun _ _ _ h => h) Tryz.call15 Tryz.func15 rfl Tryz.ntmps15 (by rw [Tryz.results15]) (by simp) ?_; have hG : (fun x => x = r) r := rfl; unfold slices_Clone_api_Waiting_api_Waiting_c at h; refine Zap 2 rfl ?_; refine Zm (.row 2 1 0) (Mem.add _ 2 (.rows 4 (List.map api_Waiting.enc ([] : List api_Waiting)) false)) rfl rfl ?_; refine Zpp 14 rfl ?_; refine Zm (.row 5 1 0) (Mem.add _ 5 (.rows 4 (List.map api_Waiting.enc ([] : List api_Waiting)) false)) rfl rfl ?_; refine Zpp 1 rfl ?_; refine Y1 rfl ?_; refine chkK h fun g1 h => ?_; refine W.chk rfl (appChk (fun _ => rfl) g1) ?_; refine W.rows (0 + (List.map api_Waiting.enc (x_ :: s_)).length) (([] : List api_Waiting) ++ (x_ :: s_)).length ([] ++ (List.map api_Waiting.enc (x_ :: s_))) (List.map api_Waiting.enc (([] : List api_Waiting) ++ (x_ :: s_))) rfl (by first | rfl | (simp; done) | simp only [partMap, List.length_map, List.length_append, List.nil_append, Nat.zero_add, List.length_nil]) (by first | rfl | (simp; done) | simp only [partMap, List.map_append, List.nil_append, List.map_nil]) ?_; refine Zo (.row 5 2 (([] : List api_Waiting) ++ (x_ :: s_)).length) rfl rfl ?_; refine Zpb 3 rfl ?_; cases h; cases hG; exact ⟨rfl, rfl, trivial⟩
noncomputable def slices_Clone_api_Waiting_api_Waiting (s_ : List api_Waiting) : Option (List api_Waiting) := (chkO (decide (s_.length ≤ 1000000))).bind fun _ => some s_
theorem slices_Clone_api_Waiting_api_Waiting_fn {s_ r : List api_Waiting} (h : slices_Clone_api_Waiting_api_Waiting s_ = some r) : Fn Tryz.prog 15 [VF (List.map api_Waiting.enc s_)] (.ow 4 (List.map api_Waiting.enc r)) := by
  have e : s_ = r := cloneE h
  subst e
  cases s_ with
  | nil => exact Fn.slice0 (slices_Clone_api_Waiting_api_Waiting_a_fn rfl) fun a c => slices_Clone_api_Waiting_api_Waiting_b_fn (a_ := a) (c_ := c) rfl
  | cons x s =>
    refine slices_Clone_api_Waiting_api_Waiting_c_fn ?_; unfold slices_Clone_api_Waiting_api_Waiting at h; unfold slices_Clone_api_Waiting_api_Waiting_c
    simpa only [List.nil_append, Nat.zero_add] using h
noncomputable def queue_to (n_ : Int) (least_ : Int) (most_ : Int) : Option (Bool) :=
  (bif (decide (least_ ≤ n_)) then
    some (decide (n_ ≤ most_))
  else
    some false)
theorem queue_to_fn {n_ : Int} {least_ : Int} {most_ : Int} {r : Bool} (h : queue_to n_ least_ most_ = some r) : Fn Tryz.prog 36 [VI n_, VI least_, VI most_] (VB r) := by
  refine Fn.of_AW (F := FnX Tryz.prog) (base := 0) (js := []) mixed tok noeqs (fun _ _ _ h => h) Tryz.call36 Tryz.func36 rfl Tryz.ntmps36 (by rw [Tryz.results36]) (by simp) ?_; have hG : (fun x => x = r) r := rfl; unfold queue_to at h; refine Zap 11 rfl ?_; refine YT rfl rfl rfl h (fun _ h => ?_) (fun _ h => ?_)
  · refine Zwb 8 rfl ?_; cases h; cases hG; exact ⟨rfl, trivial⟩
  · refine Zpb 7 rfl ?_; cases h; cases hG; exact ⟨rfl, trivial⟩
noncomputable def queue_right (w_ : api_Waiting) : Option (Bool) :=
  (queue_to w_.Event (0 : Int) (99999 : Int)).bind fun y1 =>
  (bif y1 then
    (queue_to w_.Net (0 : Int) (11 : Int)).bind fun y2 =>
    (bif y2 then
      (queue_to w_.Left (1 : Int) (1099511627776 : Int)).bind fun y3 =>
      (bif y3 then
        (queue_to w_.Due (0 : Int) (1073741824 : Int)).bind fun y4 =>
        some y4
      else
        some false)
    else
      some false)
  else
    some false)
theorem queue_right_fn {w_ : api_Waiting} {r : Bool} (h : queue_right w_ = some r) : Fn Tryz.prog 17 [.agg (api_Waiting.av w_)] (VB r) := by
  refine Fn.of_AW (F := FnX Tryz.prog) (base := 0) (js := []) mixed tok noeqs (fun _ _ _ h => h) Tryz.call17 Tryz.func17 rfl Tryz.ntmps17 (by rw [Tryz.results17]) (by simp) ?_; have hG : (fun x => x = r) r := rfl; unfold queue_right at h; refine Zap 2 rfl ?_; refine Zm (.lp 1 1 0) (Mem.add _ 1 (.box (api_Waiting.av w_))) rfl rfl ?_; refine Zpp 7 rfl ?_; refine Y1 rfl ?_; refine bindK h fun y1 hy1 h => ?_; refine W.call rfl (queue_to_fn hy1) ?_; refine Zwp 2 rfl ?_; refine YT rfl rfl rfl h (fun _ h => ?_) (fun _ h => ?_)
  · refine Zwp 2 rfl ?_; refine Y2 rfl rfl rfl ?_; refine bindK h fun y2 hy2 h => ?_; refine W.call rfl (queue_to_fn hy2) ?_; refine Zwp 3 rfl ?_; refine YT rfl rfl rfl h (fun _ h => ?_) (fun _ h => ?_)
    · refine Zwp 2 rfl ?_; refine Y2 rfl rfl rfl ?_; refine bindK h fun y3 hy3 h => ?_; refine W.call rfl (queue_to_fn hy3) ?_; refine Zwp 3 rfl ?_; refine YT rfl rfl rfl h (fun _ h => ?_) (fun _ h => ?_)
      · refine Zwp 2 rfl ?_; refine Y2 rfl rfl rfl ?_; refine bindK h fun y4 hy4 h => ?_; refine W.call rfl (queue_to_fn hy4) ?_; refine Zwb 6 rfl ?_; cases h; cases hG; exact ⟨rfl, trivial⟩
      · refine Zpb 7 rfl ?_; cases h; cases hG; exact ⟨rfl, trivial⟩
    · refine Zpb 12 rfl ?_; cases h; cases hG; exact ⟨rfl, trivial⟩
  · refine Zpb 17 rfl ?_; cases h; cases hG; exact ⟨rfl, trivial⟩
noncomputable def queue_has_1 (w_ : api_Waiting) (c0_ : Int) (c1_ : Int) : Option (Bool) :=
  (bif (w_.Event == c0_) then
    some (w_.Net == c1_)
  else
    some false)
theorem queue_has_1_fn {w_ : api_Waiting} {c0_ : Int} {c1_ : Int} {r : Bool} (h : queue_has_1 w_ c0_ c1_ = some r) : Fn Tryz.prog 38 [.agg (api_Waiting.av w_), .fp [.v (.int .i64 c0_)], .fp [.v (.int .i64 c1_)]] (VB r) := by
  refine Fn.of_AW (F := FnX Tryz.prog) (base := 0) (js := []) mixed tok noeqs (fun _ _ _ h => h) Tryz.call38 Tryz.func38 rfl Tryz.ntmps38 (by rw [Tryz.results38]) (by simp) ?_; have hG : (fun x => x = r) r := rfl; unfold queue_has_1 at h; refine Zap 2 rfl ?_; refine Zm (.lp 3 1 0) (Mem.add _ 3 (.box (api_Waiting.av w_))) rfl rfl ?_; refine Zpp 10 rfl ?_; refine YT rfl rfl rfl h (fun _ h => ?_) (fun _ h => ?_)
  · refine Zwb 9 rfl ?_; cases h; cases hG; exact ⟨rfl, trivial⟩
  · refine Zpb 8 rfl ?_; cases h; cases hG; exact ⟨rfl, trivial⟩
noncomputable def slices_IndexFunc_api_Waiting_api_Waiting_L1 (s_ : (List api_Waiting)) (f_ : (api_Waiting → Option (Bool))) (s3 : Int) : Option ((Int) ⊕ ((Unit) ⊕ (Int))) :=
  (bif (decide (s3 < (s_.length : Int))) then
    (getI s_ s3).bind fun x23 =>
    (f_ x23).bind fun y24 =>
    (bif y24 then
      some (.inr (.inr s3))
    else
      some (.inl (IntKind.i64.wrap (s3 + (1 : Int)))))
  else
    some (.inr (.inl ())))
noncomputable def slices_IndexFunc_api_Waiting_api_Waiting (s_ : (List api_Waiting)) (f_ : (api_Waiting → Option (Bool))) : Option (Int) :=
  (seqF (A := Unit) (
    loopF (slices_IndexFunc_api_Waiting_api_Waiting_L1 s_ f_) (0 : Int))
  fun s2 =>
    some (-1 : Int))
theorem slices_IndexFunc_api_Waiting_api_Waiting_fn {s_ : (List api_Waiting)} {f_ : (api_Waiting → Option (Bool))} {f_F : FuncId} {f_C : List AV} (f_H : f_C.all capd = true) (f_P : ∀ (q0 : api_Waiting) (z : Bool), f_ q0 = some z → Fn Tryz.prog f_F ([.agg (api_Waiting.av q0)] ++ f_C) (VB z)) {r : Int} (h : slices_IndexFunc_api_Waiting_api_Waiting s_ f_ = some r) : Fn Tryz.prog 50 [VF (List.map api_Waiting.enc s_), .fn f_F f_C] (VI r) := by
  refine Fn.of_AW (F := FnX Tryz.prog) (base := 0) (js := [7]) mixed tok noeqs (fun _ _ _ h => h) Tryz.call50 Tryz.func50 rfl Tryz.ntmps50 (by rw [Tryz.results50]) (by simp) ?_; have hG : (fun x => x = r) r := rfl; unfold slices_IndexFunc_api_Waiting_api_Waiting at h; refine Zac 5 rfl ?_; refine A.join (fun (s2 : Unit) => []) (fun s2 => []) _ h hG rfl ?_ ?_
  · intro J f h hG; refine Zap 3 rfl ?_; refine Y1 rfl ?_; refine W.len rfl ?_; refine Zpc 4 rfl ?_; refine A.loop (fun (s3 : Int) => [(0, VF (List.map api_Waiting.enc s_)), (1, .fn f_F f_C), (7, VI (s_.length : Int)), (8, VI s3)]) (fun s3 => []) _ h hG (Zf [] [] rfl rfl (Ze rfl rfl (chkE.g f_H rfl (Ze rfl rfl (Ze rfl rfl trivial)))) trivial) ?_; intro J s3 f h hG; unfold slices_IndexFunc_api_Waiting_api_Waiting_L1 at h; refine Zac 6 rfl ?_; refine A.condB rfl h (fun _ h => ?_) (fun _ h => ?_)
    · refine Zcp 12 rfl ?_; refine Zo (.fn f_F f_C) rfl rfl ?_; refine Zpp 2 rfl ?_; refine Y1 rfl ?_; refine bindK h fun x23 hx23 h => ?_; refine W.chk rfl (elemB hx23) ?_; refine W.elem rfl (elemG hx23) ?_; refine W.chk rfl rfl ?_; refine W.det (.fp [.v (.int .i64 x23.Event), .v (.int .i64 x23.Net), .v (.int .i64 x23.Left), .v (.int .i64 x23.Due)]) _ rfl ?_; refine Zo (.agg (api_Waiting.av x23)) rfl rfl ?_; refine Y1 rfl ?_; refine bindK h fun y24 hy24 h => ?_; refine callG rfl rfl rfl f_H ?_; refine W.call rfl (f_P _ _ hy24) ?_; refine Zwc 3 rfl ?_; refine A.condB rfl h (fun _ h => ?_) (fun _ h => ?_)
      · refine Zcb 9 rfl ?_; refine headK.r ?_; refine Zob 1 rfl ?_; refine headK.r ?_; cases h; cases hG; exact ⟨rfl, trivial⟩
      · refine Zcb 7 rfl ?_; cases h; exact Zh hG [] [] rfl rfl (Ze rfl rfl (chkE.g f_H rfl (Ze rfl rfl (Ze rfl rfl trivial)))) trivial
    · refine Zcb 2 rfl ?_; refine headK.e ?_; refine Zob 1 rfl ?_; cases h; exact Zh hG [] [] rfl rfl trivial trivial
  · intro s2 r2 h hG; refine Zcb 6 rfl ?_; cases h; cases hG; exact ⟨rfl, trivial⟩
noncomputable def slices_ContainsFunc_api_Waiting_api_Waiting (s_ : (List api_Waiting)) (f_ : (api_Waiting → Option (Bool))) : Option (Bool) :=
  (slices_IndexFunc_api_Waiting_api_Waiting s_ f_).bind fun y1 =>
  some (decide ((0 : Int) ≤ y1))
theorem slices_ContainsFunc_api_Waiting_api_Waiting_fn {s_ : (List api_Waiting)} {f_ : (api_Waiting → Option (Bool))} {f_F : FuncId} {f_C : List AV} (f_H : f_C.all capd = true) (f_P : ∀ (q0 : api_Waiting) (z : Bool), f_ q0 = some z → Fn Tryz.prog f_F ([.agg (api_Waiting.av q0)] ++ f_C) (VB z)) {r : Bool} (h : slices_ContainsFunc_api_Waiting_api_Waiting s_ f_ = some r) : Fn Tryz.prog 37 [VF (List.map api_Waiting.enc s_), .fn f_F f_C] (VB r) := by
  refine Fn.of_AW (F := FnX Tryz.prog) (base := 0) (js := []) mixed tok noeqs (fun _ _ _ h => h) Tryz.call37 Tryz.func37 rfl Tryz.ntmps37 (by rw [Tryz.results37]) (by simp) ?_; have hG : (fun x => x = r) r := rfl; unfold slices_ContainsFunc_api_Waiting_api_Waiting at h; refine Zap 8 rfl ?_; refine Zo (.fn f_F f_C) rfl rfl ?_; refine Y1 rfl ?_; refine bindK h fun y1 hy1 h => ?_; refine callZ [some (VF (List.map api_Waiting.enc s_))] rfl rfl rfl rfl f_H ?_; refine W.call rfl (slices_IndexFunc_api_Waiting_api_Waiting_fn (f_F := f_F) (f_C := f_C) f_H f_P hy1) ?_; refine Zwb 6 rfl ?_; cases h; cases hG; exact ⟨rfl, trivial⟩
noncomputable def queue_has (l_ : (List api_Waiting)) (event_ : Int) (net_ : Int) : Option (Bool) :=
  (slices_ContainsFunc_api_Waiting_api_Waiting l_ (fun a0 => queue_has_1 a0 event_ net_)).bind fun y1 =>
  some y1
theorem queue_has_fn {l_ : (List api_Waiting)} {event_ : Int} {net_ : Int} {r : Bool} (h : queue_has l_ event_ net_ = some r) : Fn Tryz.prog 18 [VF (List.map api_Waiting.enc l_), VI event_, VI net_] (VB r) := by
  refine Fn.of_AW (F := FnX Tryz.prog) (base := 0) (js := []) mixed tok noeqs (fun _ _ _ h => h) Tryz.call18 Tryz.func18 rfl Tryz.ntmps18 (by rw [Tryz.results18]) (by simp) ?_; have hG : (fun x => x = r) r := rfl; unfold queue_has at h; refine Zap 2 rfl ?_; refine Zm (.lp 4 1 0) (Mem.add _ 4 (.box [VI event_])) rfl rfl ?_; refine Zm (.lp 5 1 0) (Mem.add _ 5 (.box [VI net_])) rfl rfl ?_; refine Zpp 6 rfl ?_; refine Zo (.fn 38 [.lp 4 1 0, .lp 5 1 0]) rfl rfl ?_; refine Y1 rfl ?_; refine bindK h fun y1 hy1 h => ?_; refine W.call rfl (slices_ContainsFunc_api_Waiting_api_Waiting_fn (f_F := 38) (f_C := [.fp [.v (.int .i64 event_)], .fp [.v (.int .i64 net_)]]) rfl (fun _ _ h => queue_has_1_fn h) hy1) ?_; refine Zwb 5 rfl ?_; cases h; cases hG; exact ⟨rfl, trivial⟩
noncomputable def queue_queue_L1 (l_ : (List api_Waiting)) (s3 : Int) : Option ((Int) ⊕ ((Unit) ⊕ (Bool))) :=
  (bif (decide (s3 < (l_.length : Int))) then
    (getI l_ s3).bind fun x78 =>
    (queue_right x78).bind fun y82 =>
    (bif (!y82) then
      some (.inr (.inr false))
    else
      (chkO (cutO (0 : Int) s3 (l_.length : Int))).bind fun _ =>
      (queue_has (List.drop (0 : Int).toNat (List.take s3.toNat l_)) x78.Event x78.Net).bind fun y84 =>
      (bif y84 then
        some (.inr (.inr false))
      else
        some (.inl (IntKind.i64.wrap (s3 + (1 : Int))))))
  else
    some (.inr (.inl ())))
noncomputable def queue_queue (l_ : (List api_Waiting)) : Option (Bool) :=
  (seqF (A := Unit) (
    loopF (queue_queue_L1 l_) (0 : Int))
  fun s2 =>
    some true)
theorem queue_queue_fn {l_ : (List api_Waiting)} {r : Bool} (h : queue_queue l_ = some r) : Fn Tryz.prog 16 [VF (List.map api_Waiting.enc l_)] (VB r) := by
  refine Fn.of_AW (F := FnX Tryz.prog) (base := 0) (js := [7]) mixed tok noeqs (fun _ _ _ h => h) Tryz.call16 Tryz.func16 rfl Tryz.ntmps16 (by rw [Tryz.results16]) (by simp) ?_; have hG : (fun x => x = r) r := rfl; unfold queue_queue at h; refine Zac 5 rfl ?_; refine A.join (fun (s2 : Unit) => []) (fun s2 => []) _ h hG rfl ?_ ?_
  · intro J f h hG; refine Zap 3 rfl ?_; refine Y1 rfl ?_; refine W.len rfl ?_; refine Zpc 4 rfl ?_; refine A.loop (fun (s3 : Int) => [(0, VF (List.map api_Waiting.enc l_)), (5, VF (List.map api_Waiting.enc l_)), (6, VI (l_.length : Int)), (7, VI s3)]) (fun s3 => []) _ h hG (Zf [] [] rfl rfl (Ze rfl rfl (Ze rfl rfl (Ze rfl rfl (Ze rfl rfl trivial)))) trivial) ?_; intro J s3 f h hG; unfold queue_queue_L1 at h; refine Zac 6 rfl ?_; refine A.condB rfl h (fun _ h => ?_) (fun _ h => ?_)
    · refine Zcp 7 rfl ?_; refine Y1 rfl ?_; refine bindK h fun x78 hx78 h => ?_; refine W.chk rfl (elemB hx78) ?_; refine W.elem rfl (elemG hx78) ?_; refine W.chk rfl rfl ?_; refine W.det (.fp [.v (.int .i64 x78.Event), .v (.int .i64 x78.Net), .v (.int .i64 x78.Left), .v (.int .i64 x78.Due)]) _ rfl ?_; refine Zo (.agg (api_Waiting.av x78)) rfl rfl ?_; refine Zm (.lp 4 2 0) (Mem.add _ 4 (.box [VI 0, VI 0, VI 0, VI 0])) rfl rfl ?_; refine Zpp 1 rfl ?_; refine Zm (.tup []) (Mem.set _ 4 2 (some (.box (api_Waiting.av x78)))) rfl rfl ?_; refine Zpc 3 rfl ?_; refine A.regionD (by kernel_rfl) ?_; refine Zo (.agg (api_Waiting.av x78)) rfl rfl ?_; refine Y1 rfl ?_; refine bindK h fun y82 hy82 h => ?_; refine W.call rfl (queue_right_fn hy82) ?_; refine Zwp 3 rfl ?_; refine YF rfl rfl rfl h (fun _ h => ?_) (fun _ h => ?_)
      · refine Zpb 19 rfl ?_; refine headK.r ?_; refine Zob 1 rfl ?_; refine headK.r ?_; cases h; cases hG; exact ⟨rfl, trivial⟩
      · refine Zwp 2 rfl ?_; refine Y2 rfl rfl rfl ?_; refine chkK h fun g83 h => ?_; refine W.chk rfl (cutO_map (fun _ => rfl) g83) ?_; refine W.cut rfl ?_; refine Zpp 4 rfl ?_; refine Y2 rfl rfl rfl ?_; refine bindK h fun y84 hy84 h => ?_; refine W.call rfl (queue_has_fn hy84) ?_; refine Zwc 4 rfl ?_; refine A.condB rfl h (fun _ h => ?_) (fun _ h => ?_)
        · refine Zcb 8 rfl ?_; refine headK.r ?_; refine Zob 1 rfl ?_; refine headK.r ?_; cases h; cases hG; exact ⟨rfl, trivial⟩
        · refine Zcb 7 rfl ?_; cases h; exact Zh hG [] [] rfl rfl (Ze rfl rfl (Ze rfl rfl (Ze rfl rfl (Ze rfl rfl trivial)))) trivial
    · refine Zcb 2 rfl ?_; refine headK.e ?_; refine Zob 1 rfl ?_; cases h; exact Zh hG [] [] rfl rfl trivial trivial
  · intro s2 r2 h hG; refine Zcb 6 rfl ?_; cases h; cases hG; exact ⟨rfl, trivial⟩
noncomputable def lex_letter (c_ : Int) : Option (Bool) :=
  (bif (decide ((97 : Int) ≤ c_)) then
    some (decide (c_ ≤ (122 : Int)))
  else
    some false)
theorem lex_letter_fn {c_ : Int} {r : Bool} (h : lex_letter c_ = some r) : Fn Tryz.prog 88 [.d (.v (.int .u8 c_))] (VB r) := by
  refine Fn.of_AW (F := FnX Tryz.prog) (base := 0) (js := []) mixed tok noeqs (fun _ _ _ h => h) Tryz.call88 Tryz.func88 rfl Tryz.ntmps88 (by rw [Tryz.results88]) (by simp) ?_; have hG : (fun x => x = r) r := rfl; unfold lex_letter at h; refine Zap 10 rfl ?_; refine YT rfl rfl rfl h (fun _ h => ?_) (fun _ h => ?_)
  · refine Zwb 7 rfl ?_; cases h; cases hG; exact ⟨rfl, trivial⟩
  · refine Zpb 6 rfl ?_; cases h; cases hG; exact ⟨rfl, trivial⟩
noncomputable def lex_span_L1 (s_ : ByteArray) (is_ : (Int → Option (Bool))) (s3 : Int) : Option ((Int) ⊕ ((Int) ⊕ (Int))) :=
  (bif (decide (s3 < (s_.size : Int))) then
    (chkO (decide (0 ≤ s3) && decide (s3 < (s_.size : Int)))).bind fun _ =>
    (is_ ((s_.data.toList.getD s3.toNat 0).toNat : Int)).bind fun y24 =>
    (bif y24 then
      some (.inl (IntKind.i64.wrap (s3 + (1 : Int))))
    else
      some (.inr (.inl s3)))
  else
    some (.inr (.inl s3)))
noncomputable def lex_span (s_ : ByteArray) (is_ : (Int → Option (Bool))) : Option (Int) :=
  (seqF (A := Int) (
    loopF (lex_span_L1 s_ is_) (0 : Int))
  fun s2 =>
    some s2)
theorem lex_span_fn {s_ : ByteArray} {is_ : (Int → Option (Bool))} {is_F : FuncId} {is_C : List AV} (is_H : is_C.all capd = true) (is_P : ∀ (q0 : Int) (z : Bool), is_ q0 = some z → Fn Tryz.prog is_F ([.d (.v (.int .u8 q0))] ++ is_C) (VB z)) {r : Int} (h : lex_span s_ is_ = some r) : Fn Tryz.prog 89 [VS s_, .fn is_F is_C] (VI r) := by
  refine Fn.of_AW (F := FnX Tryz.prog) (base := 0) (js := [4]) mixed tok noeqs (fun _ _ _ h => h) Tryz.call89 Tryz.func89 rfl Tryz.ntmps89 (by rw [Tryz.results89]) (by simp) ?_; have hG : (fun x => x = r) r := rfl; unfold lex_span at h; refine Zac 10 rfl ?_; refine A.join (fun (s2 : Int) => [(5, VI s2)]) (fun s2 => []) _ h hG rfl ?_ ?_
  · intro J f h hG; refine Zac 1 rfl ?_; refine A.loop (fun (s3 : Int) => [(0, VS s_), (1, .fn is_F is_C), (5, VI s3)]) (fun s3 => []) _ h hG (Zf [] [] rfl rfl (Ze rfl rfl (chkE.g is_H rfl (Ze rfl rfl trivial))) trivial) ?_; intro J s3 f h hG; unfold lex_span_L1 at h; refine Zap 8 rfl ?_; refine YT rfl rfl rfl h (fun _ h => ?_) (fun _ h => ?_)
    · refine W.det (.fn is_F is_C) _ rfl ?_; refine Zpp 2 rfl ?_; refine Y2 rfl rfl rfl ?_; refine chkK h fun g23 h => ?_; refine W.chk rfl (by simpa using g23) ?_; refine W.det (.d (.v (.int .u8 ((s_.data.toList.getD s3.toNat 0).toNat : Int)))) _ rfl ?_; refine Y2 rfl rfl rfl ?_; refine bindK h fun y24 hy24 h => ?_; refine callG rfl rfl rfl is_H ?_; refine W.call rfl (is_P _ _ hy24) ?_; refine Zwc 4 rfl ?_; refine A.condB rfl h (fun _ h => ?_) (fun _ h => ?_)
      · refine Zcb 9 rfl ?_; cases h; exact Zh hG [] [] rfl rfl (Ze rfl rfl (chkE.g is_H rfl (Ze rfl rfl trivial))) trivial
      · refine Zcb 2 rfl ?_; refine headK.e ?_; refine Zob 1 rfl ?_; cases h; exact Zh hG [] [] rfl rfl (Ze rfl rfl trivial) trivial
    · refine Zpb 10 rfl ?_; refine headK.e ?_; refine Zob 1 rfl ?_; cases h; exact Zh hG [] [] rfl rfl (Ze rfl rfl trivial) trivial
  · intro s2 r2 h hG; refine Zcb 7 rfl ?_; cases h; cases hG; exact ⟨rfl, trivial⟩
noncomputable def lex_digit (c_ : Int) : Option (Bool) :=
  (bif (decide ((48 : Int) ≤ c_)) then
    some (decide (c_ ≤ (57 : Int)))
  else
    some false)
theorem lex_digit_fn {c_ : Int} {r : Bool} (h : lex_digit c_ = some r) : Fn Tryz.prog 91 [.d (.v (.int .u8 c_))] (VB r) := by
  refine Fn.of_AW (F := FnX Tryz.prog) (base := 0) (js := []) mixed tok noeqs (fun _ _ _ h => h) Tryz.call91 Tryz.func91 rfl Tryz.ntmps91 (by rw [Tryz.results91]) (by simp) ?_; have hG : (fun x => x = r) r := rfl; unfold lex_digit at h; refine Zap 10 rfl ?_; refine YT rfl rfl rfl h (fun _ h => ?_) (fun _ h => ?_)
  · refine Zwb 7 rfl ?_; cases h; cases hG; exact ⟨rfl, trivial⟩
  · refine Zpb 6 rfl ?_; cases h; cases hG; exact ⟨rfl, trivial⟩
noncomputable def lex_Word_1 (c_ : Int) : Option (Bool) :=
  (lex_letter c_).bind fun y1 =>
  (bif y1 then
    some true
  else
    (lex_digit c_).bind fun y2 =>
    some y2)
theorem lex_Word_1_fn {c_ : Int} {r : Bool} (h : lex_Word_1 c_ = some r) : Fn Tryz.prog 90 [.d (.v (.int .u8 c_))] (VB r) := by
  refine Fn.of_AW (F := FnX Tryz.prog) (base := 0) (js := []) mixed tok noeqs (fun _ _ _ h => h) Tryz.call90 Tryz.func90 rfl Tryz.ntmps90 (by rw [Tryz.results90]) (by simp) ?_; have hG : (fun x => x = r) r := rfl; unfold lex_Word_1 at h; refine Zap 8 rfl ?_; refine Y1 rfl ?_; refine bindK h fun y1 hy1 h => ?_; refine W.call rfl (lex_letter_fn hy1) ?_; refine Zwp 2 rfl ?_; refine YF rfl rfl rfl h (fun _ h => ?_) (fun _ h => ?_)
  · refine Zpb 6 rfl ?_; cases h; cases hG; exact ⟨rfl, trivial⟩
  · refine Zwp 1 rfl ?_; refine Y2 rfl rfl rfl ?_; refine bindK h fun y2 hy2 h => ?_; refine W.call rfl (lex_digit_fn hy2) ?_; refine Zwb 6 rfl ?_; cases h; cases hG; exact ⟨rfl, trivial⟩
noncomputable def lex_Word (s_ : ByteArray) : Option (Bool) :=
  (bif (s_.toList == (ByteArray.mk #[]).toList) then
    some false
  else
    (chkO (decide (0 ≤ (0 : Int)) && decide ((0 : Int) < (s_.size : Int)))).bind fun _ =>
    (lex_letter ((s_.data.toList.getD (0 : Int).toNat 0).toNat : Int)).bind fun y8 =>
    (bif (!y8) then
      some false
    else
      (bif (decide ((20 : Int) < (s_.size : Int))) then
        some false
      else
        (lex_span s_ lex_Word_1).bind fun y9 =>
        some (y9 == (s_.size : Int)))))
theorem lex_Word_fn {s_ : ByteArray} {r : Bool} (h : lex_Word s_ = some r) : Fn Tryz.prog 60 [VS s_] (VB r) := by
  refine Fn.of_AW (F := FnX Tryz.prog) (base := 0) (js := []) mixed tok noeqs (fun _ _ _ h => h) Tryz.call60 Tryz.func60 rfl Tryz.ntmps60 (by rw [Tryz.results60]) (by simp) ?_; have hG : (fun x => x = r) r := rfl; unfold lex_Word at h; refine Zap 11 rfl ?_; refine YF rfl rfl rfl h (fun _ h => ?_) (fun _ h => ?_)
  · refine Zpb 19 rfl ?_; cases h; cases hG; exact ⟨rfl, trivial⟩
  · refine Zwp 1 rfl ?_; refine Y2 rfl rfl rfl ?_; refine chkK h fun g7 h => ?_; refine W.chk rfl (by simpa using g7) ?_; refine W.det (.d (.v (.int .u8 ((s_.data.toList.getD (0 : Int).toNat 0).toNat : Int)))) _ rfl ?_; refine Y2 rfl rfl rfl ?_; refine bindK h fun y8 hy8 h => ?_; refine W.call rfl (lex_letter_fn hy8) ?_; refine Zwp 4 rfl ?_; refine YF rfl rfl rfl h (fun _ h => ?_) (fun _ h => ?_)
    · refine Zpb 13 rfl ?_; cases h; cases hG; exact ⟨rfl, trivial⟩
    · refine Zwc 6 rfl ?_; refine A.condB rfl h (fun _ h => ?_) (fun _ h => ?_)
      · refine Zcb 7 rfl ?_; cases h; cases hG; exact ⟨rfl, trivial⟩
      · refine Zcp 5 rfl ?_; refine Y1 rfl ?_; refine bindK h fun y9 hy9 h => ?_; refine W.call rfl (lex_span_fn (is_F := 90) (is_C := []) rfl (fun _ _ h => lex_Word_1_fn h) hy9) ?_; refine Zwb 8 rfl ?_; cases h; cases hG; exact ⟨rfl, trivial⟩
noncomputable def slices_IndexFunc_string_string_L1 (s_ : (List ByteArray)) (f_ : (ByteArray → Option (Bool))) (s3 : Int) : Option ((Int) ⊕ ((Unit) ⊕ (Int))) :=
  (bif (decide (s3 < (s_.length : Int))) then
    (getI s_ s3).bind fun x23 =>
    (f_ x23).bind fun y24 =>
    (bif y24 then
      some (.inr (.inr s3))
    else
      some (.inl (IntKind.i64.wrap (s3 + (1 : Int)))))
  else
    some (.inr (.inl ())))
noncomputable def slices_IndexFunc_string_string (s_ : (List ByteArray)) (f_ : (ByteArray → Option (Bool))) : Option (Int) :=
  (seqF (A := Unit) (
    loopF (slices_IndexFunc_string_string_L1 s_ f_) (0 : Int))
  fun s2 =>
    some (-1 : Int))
theorem slices_IndexFunc_string_string_fn {s_ : (List ByteArray)} {f_ : (ByteArray → Option (Bool))} {f_F : FuncId} {f_C : List AV} (f_H : f_C.all capd = true) (f_P : ∀ (q0 : ByteArray) (z : Bool), f_ q0 = some z → Fn Tryz.prog f_F ([VS q0] ++ f_C) (VB z)) {r : Int} (h : slices_IndexFunc_string_string s_ f_ = some r) : Fn Tryz.prog 92 [VF (List.map encS s_), .fn f_F f_C] (VI r) := by
  refine Fn.of_AW (F := FnX Tryz.prog) (base := 0) (js := [7]) mixed tok noeqs (fun _ _ _ h => h) Tryz.call92 Tryz.func92 rfl Tryz.ntmps92 (by rw [Tryz.results92]) (by simp) ?_; have hG : (fun x => x = r) r := rfl; unfold slices_IndexFunc_string_string at h; refine Zac 5 rfl ?_; refine A.join (fun (s2 : Unit) => []) (fun s2 => []) _ h hG rfl ?_ ?_
  · intro J f h hG; refine Zap 3 rfl ?_; refine Y1 rfl ?_; refine W.len rfl ?_; refine Zpc 4 rfl ?_; refine A.loop (fun (s3 : Int) => [(0, VF (List.map encS s_)), (1, .fn f_F f_C), (7, VI (s_.length : Int)), (8, VI s3)]) (fun s3 => []) _ h hG (Zf [] [] rfl rfl (Ze rfl rfl (chkE.g f_H rfl (Ze rfl rfl (Ze rfl rfl trivial)))) trivial) ?_; intro J s3 f h hG; unfold slices_IndexFunc_string_string_L1 at h; refine Zac 6 rfl ?_; refine A.condB rfl h (fun _ h => ?_) (fun _ h => ?_)
    · refine Zcp 12 rfl ?_; refine Zo (.fn f_F f_C) rfl rfl ?_; refine Zpp 2 rfl ?_; refine Y1 rfl ?_; refine bindK h fun x23 hx23 h => ?_; refine W.chk rfl (elemB hx23) ?_; refine W.elem rfl (elemG hx23) ?_; refine W.chk rfl rfl ?_; refine W.det (.fp [.v (.string x23)]) _ rfl ?_; refine Zpp 1 rfl ?_; refine Y1 rfl ?_; refine bindK h fun y24 hy24 h => ?_; refine callG rfl rfl rfl f_H ?_; refine W.call rfl (f_P _ _ hy24) ?_; refine Zwc 3 rfl ?_; refine A.condB rfl h (fun _ h => ?_) (fun _ h => ?_)
      · refine Zcb 9 rfl ?_; refine headK.r ?_; refine Zob 1 rfl ?_; refine headK.r ?_; cases h; cases hG; exact ⟨rfl, trivial⟩
      · refine Zcb 7 rfl ?_; cases h; exact Zh hG [] [] rfl rfl (Ze rfl rfl (chkE.g f_H rfl (Ze rfl rfl (Ze rfl rfl trivial)))) trivial
    · refine Zcb 2 rfl ?_; refine headK.e ?_; refine Zob 1 rfl ?_; cases h; exact Zh hG [] [] rfl rfl trivial trivial
  · intro s2 r2 h hG; refine Zcb 6 rfl ?_; cases h; cases hG; exact ⟨rfl, trivial⟩
noncomputable def slices_ContainsFunc_string_string (s_ : (List ByteArray)) (f_ : (ByteArray → Option (Bool))) : Option (Bool) :=
  (slices_IndexFunc_string_string s_ f_).bind fun y1 =>
  some (decide ((0 : Int) ≤ y1))
theorem slices_ContainsFunc_string_string_fn {s_ : (List ByteArray)} {f_ : (ByteArray → Option (Bool))} {f_F : FuncId} {f_C : List AV} (f_H : f_C.all capd = true) (f_P : ∀ (q0 : ByteArray) (z : Bool), f_ q0 = some z → Fn Tryz.prog f_F ([VS q0] ++ f_C) (VB z)) {r : Bool} (h : slices_ContainsFunc_string_string s_ f_ = some r) : Fn Tryz.prog 61 [VF (List.map encS s_), .fn f_F f_C] (VB r) := by
  refine Fn.of_AW (F := FnX Tryz.prog) (base := 0) (js := []) mixed tok noeqs (fun _ _ _ h => h) Tryz.call61 Tryz.func61 rfl Tryz.ntmps61 (by rw [Tryz.results61]) (by simp) ?_; have hG : (fun x => x = r) r := rfl; unfold slices_ContainsFunc_string_string at h; refine Zap 8 rfl ?_; refine Zo (.fn f_F f_C) rfl rfl ?_; refine Y1 rfl ?_; refine bindK h fun y1 hy1 h => ?_; refine callZ [some (VF (List.map encS s_))] rfl rfl rfl rfl f_H ?_; refine W.call rfl (slices_IndexFunc_string_string_fn (f_F := f_F) (f_C := f_C) f_H f_P hy1) ?_; refine Zwb 6 rfl ?_; cases h; cases hG; exact ⟨rfl, trivial⟩
noncomputable def syntax_Right_1 (s_ : ByteArray) : Option (Bool) :=
  (lex_Word s_).bind fun y1 =>
  some (!y1)
theorem syntax_Right_1_fn {s_ : ByteArray} {r : Bool} (h : syntax_Right_1 s_ = some r) : Fn Tryz.prog 62 [VS s_] (VB r) := by
  refine Fn.of_AW (F := FnX Tryz.prog) (base := 0) (js := []) mixed tok noeqs (fun _ _ _ h => h) Tryz.call62 Tryz.func62 rfl Tryz.ntmps62 (by rw [Tryz.results62]) (by simp) ?_; have hG : (fun x => x = r) r := rfl; unfold syntax_Right_1 at h; refine Zap 8 rfl ?_; refine Y1 rfl ?_; refine bindK h fun y1 hy1 h => ?_; refine W.call rfl (lex_Word_fn hy1) ?_; refine Zwb 6 rfl ?_; cases h; cases hG; exact ⟨rfl, trivial⟩
structure Arr2_Int where
  a0 : Int
  a1 : Int
def Arr2_Int.enc (x : Arr2_Int) : List D := [.v (.int .i64 x.a0), .v (.int .i64 x.a1)]
abbrev Arr2_Int.av (x : Arr2_Int) : List AV := [VI x.a0, VI x.a1]
noncomputable def syntax_Right_L1 (p_ : api_Profile) (s3 : Int) : Option ((Int) ⊕ ((Unit) ⊕ (Bool))) :=
  (bif (decide (s3 < ((9 : Nat) : Int))) then
    (chkO (decide (0 ≤ s3) && decide (s3 < (([p_.Within, p_.Size, p_.Parts, p_.Files, p_.Bytes, p_.Rate, p_.Down, p_.Window, p_.Keep].length : Nat) : Int)))).bind fun _ =>
    (getI [p_.Within, p_.Size, p_.Parts, p_.Files, p_.Bytes, p_.Rate, p_.Down, p_.Window, p_.Keep] s3).bind fun x24 =>
    (bif (decide (x24 < (0 : Int))) then
      some (.inr (.inr false))
    else
      (bif (decide ((1073741824 : Int) < x24)) then
        some (.inr (.inr false))
      else
        some (.inl (IntKind.i64.wrap (s3 + (1 : Int))))))
  else
    some (.inr (.inl ())))
noncomputable def syntax_Right_L2 (p_ : api_Profile) (s6 : Int) : Option ((Int) ⊕ ((Unit) ⊕ (Bool))) :=
  (bif (decide (s6 < ((6 : Nat) : Int))) then
    (chkO (decide (0 ≤ s6) && decide (s6 < (([(Arr2_Int.mk p_.Delete (3 : Int)), (Arr2_Int.mk p_.Thread (3 : Int)), (Arr2_Int.mk p_.Join (3 : Int)), (Arr2_Int.mk p_.History (2 : Int)), (Arr2_Int.mk p_.Remove (2 : Int)), (Arr2_Int.mk p_.Level (5 : Int))].length : Nat) : Int)))).bind fun _ =>
    (getI [(Arr2_Int.mk p_.Delete (3 : Int)), (Arr2_Int.mk p_.Thread (3 : Int)), (Arr2_Int.mk p_.Join (3 : Int)), (Arr2_Int.mk p_.History (2 : Int)), (Arr2_Int.mk p_.Remove (2 : Int)), (Arr2_Int.mk p_.Level (5 : Int))] s6).bind fun x48 =>
    (bif (decide (x48.a0 < (0 : Int))) then
      some (.inr (.inr false))
    else
      (bif (decide (x48.a1 ≤ x48.a0)) then
        some (.inr (.inr false))
      else
        some (.inl (IntKind.i64.wrap (s6 + (1 : Int))))))
  else
    some (.inr (.inl ())))
noncomputable def syntax_Right (p_ : api_Profile) : Option (Bool) :=
  (seqF (A := Unit) (
    loopF (syntax_Right_L1 p_) (0 : Int))
  fun s2 =>
    (seqF (A := Unit) (
      loopF (syntax_Right_L2 p_) (0 : Int))
    fun s5 =>
      (seqF (A := Bool) (
        (lex_Word p_.Name).bind fun y52 =>
        (bif (!y52) then
          some (.inl (!y52))
        else
          (bif (p_.Edit != (0 : Int)) then
            (bif (p_.Edit != (2 : Int)) then
              some (.inl (p_.Edit != (2 : Int)))
            else
              (bif (p_.Edit == (0 : Int)) then
                some (.inl (decide ((0 : Int) < p_.Within)))
              else
                some (.inl false)))
          else
            (bif (p_.Edit == (0 : Int)) then
              some (.inl (decide ((0 : Int) < p_.Within)))
            else
              some (.inl false)))))
      fun s8 =>
        (bif s8 then
          some false
        else
          (bif (p_.Files == (0 : Int)) then
            (bif (p_.Bytes == (0 : Int)) then
              some ((p_.Types.length : Int) == (0 : Int))
            else
              some false)
          else
            (bif (decide ((1 : Int) ≤ (p_.Types.length : Int))) then
              (bif (decide ((p_.Types.length : Int) ≤ (20 : Int))) then
                (slices_ContainsFunc_string_string p_.Types syntax_Right_1).bind fun y53 =>
                some (!y53)
              else
                some false)
            else
              some false))))))
theorem syntax_Right_fn {p_ : api_Profile} {r : Bool} (h : syntax_Right p_ = some r) : Fn Tryz.prog 43 [.agg (api_Profile.av p_)] (VB r) := by
  refine Fn.of_AW (F := FnX Tryz.prog) (base := 0) (js := [7, 13, 16]) mixed tok noeqs (fun _ _ _ h => h) Tryz.call43 Tryz.func43 rfl Tryz.ntmps43 (by rw [Tryz.results43]) (by simp) ?_; have hG : (fun x => x = r) r := rfl; unfold syntax_Right at h; refine Zap 2 rfl ?_; refine Zm (.lp 1 1 0) (Mem.add _ 1 (.box (api_Profile.av p_))) rfl rfl ?_; refine Zpc 3 rfl ?_; refine A.join (fun (s2 : Unit) => [(1, .lp 900000 1 0)]) (fun s2 => [(900000, .box (api_Profile.av p_))]) _ h hG rfl ?_ ?_
  · intro J f h hG; refine Zap 20 rfl ?_; refine Zm (.row 25 1 9) (Mem.add _ 25 (.rows 1 (List.map (encI .i64) [p_.Within, p_.Size, p_.Parts, p_.Files, p_.Bytes, p_.Rate, p_.Down, p_.Window, p_.Keep]) false)) rfl rfl ?_; refine Zpc 5 rfl ?_; refine A.loop (fun (s3 : Int) => [(1, .lp 900000 1 0), (25, .row 900001 1 [p_.Within, p_.Size, p_.Parts, p_.Files, p_.Bytes, p_.Rate, p_.Down, p_.Window, p_.Keep].length), (26, VI ((9 : Nat) : Int)), (27, VI s3)]) (fun s3 => [(900000, .box (api_Profile.av p_)), (900001, .rows 1 (List.map (encI .i64) [p_.Within, p_.Size, p_.Parts, p_.Files, p_.Bytes, p_.Rate, p_.Down, p_.Window, p_.Keep]) false)]) _ h hG (Zf [] [(900000, (1, 1)), (900001, (25, 1))] rfl rfl (Ze rfl rfl (Ze rfl rfl (Ze rfl rfl (Ze rfl rfl trivial)))) (Zc rfl rfl (Zc rfl rfl trivial))) ?_; intro J s3 f h hG; unfold syntax_Right_L1 at h; refine Zac 6 rfl ?_; refine A.condB rfl h (fun _ h => ?_) (fun _ h => ?_)
    · refine Zcp 6 rfl ?_; refine Y1 rfl ?_; refine chkK h fun g23 h => ?_; refine W.chk rfl (by simpa using g23) ?_; refine W.det (.rp 900001 1 s3.toNat 0) _ rfl ?_; refine Y1 rfl ?_; refine bindK h fun x24 hx24 h => ?_; refine W.elem rfl (elemG hx24) ?_; refine Zwp 9 rfl ?_; refine YF rfl rfl rfl h (fun _ h => ?_) (fun _ h => ?_)
      · refine Zpb 13 rfl ?_; refine headK.r ?_; refine Zob 1 rfl ?_; refine headK.r ?_; cases h; cases hG; exact ⟨rfl, trivial⟩
      · refine Zwc 5 rfl ?_; refine A.condB rfl h (fun _ h => ?_) (fun _ h => ?_)
        · refine Zcb 8 rfl ?_; refine headK.r ?_; refine Zob 1 rfl ?_; refine headK.r ?_; cases h; cases hG; exact ⟨rfl, trivial⟩
        · refine Zcb 7 rfl ?_; cases h; exact Zh hG [] [(900000, (900000, 1)), (900001, (900001, 1))] rfl rfl (Ze rfl rfl (Ze rfl rfl (Ze rfl rfl (Ze rfl rfl trivial)))) (Zc rfl rfl (Zc rfl rfl trivial))
    · refine Zcb 2 rfl ?_; refine headK.e ?_; refine Zob 1 rfl ?_; cases h; exact Zh hG [] [(900000, (900000, 1))] rfl rfl (Ze rfl rfl trivial) (Zc rfl rfl trivial)
  · intro s2 r2 h hG; refine A.join (fun (s5 : Unit) => [(1, .lp 900000 1 0)]) (fun s5 => [(900000, .box (api_Profile.av p_))]) _ h hG rfl ?_ ?_
    · intro J f h hG; refine Zap 4 rfl ?_; refine Zo (.agg [VI p_.Delete, VI 3]) rfl rfl ?_; refine Zpp 2 rfl ?_; refine Zo (.agg [VI p_.Thread, VI 3]) rfl rfl ?_; refine Zpp 2 rfl ?_; refine Zo (.agg [VI p_.Join, VI 3]) rfl rfl ?_; refine Zpp 2 rfl ?_; refine Zo (.agg [VI p_.History, VI 2]) rfl rfl ?_; refine Zpp 2 rfl ?_; refine Zo (.agg [VI p_.Remove, VI 2]) rfl rfl ?_; refine Zpp 2 rfl ?_; refine Zo (.agg [VI p_.Level, VI 5]) rfl rfl ?_; refine Zm (.row 56 2 6) (Mem.add _ 56 (.rows 2 (List.map Arr2_Int.enc [(Arr2_Int.mk p_.Delete (3 : Int)), (Arr2_Int.mk p_.Thread (3 : Int)), (Arr2_Int.mk p_.Join (3 : Int)), (Arr2_Int.mk p_.History (2 : Int)), (Arr2_Int.mk p_.Remove (2 : Int)), (Arr2_Int.mk p_.Level (5 : Int))]) false)) rfl rfl ?_; refine Zpc 5 rfl ?_; refine A.loop (fun (s6 : Int) => [(1, .lp 900000 1 0), (56, .row 900001 1 [(Arr2_Int.mk p_.Delete (3 : Int)), (Arr2_Int.mk p_.Thread (3 : Int)), (Arr2_Int.mk p_.Join (3 : Int)), (Arr2_Int.mk p_.History (2 : Int)), (Arr2_Int.mk p_.Remove (2 : Int)), (Arr2_Int.mk p_.Level (5 : Int))].length), (57, VI ((6 : Nat) : Int)), (58, VI s6)]) (fun s6 => [(900000, .box (api_Profile.av p_)), (900001, .rows 2 (List.map Arr2_Int.enc [(Arr2_Int.mk p_.Delete (3 : Int)), (Arr2_Int.mk p_.Thread (3 : Int)), (Arr2_Int.mk p_.Join (3 : Int)), (Arr2_Int.mk p_.History (2 : Int)), (Arr2_Int.mk p_.Remove (2 : Int)), (Arr2_Int.mk p_.Level (5 : Int))]) false)]) _ h hG (Zf [] [(900000, (900000, 1)), (900001, (56, 2))] rfl rfl (Ze rfl rfl (Ze rfl rfl (Ze rfl rfl (Ze rfl rfl trivial)))) (Zc rfl rfl (Zc rfl rfl trivial))) ?_; intro J s6 f h hG; unfold syntax_Right_L2 at h; refine Zac 6 rfl ?_; refine A.condB rfl h (fun _ h => ?_) (fun _ h => ?_)
      · refine Zcp 6 rfl ?_; refine Y1 rfl ?_; refine chkK h fun g47 h => ?_; refine W.chk rfl (by simpa using g47) ?_; refine W.det (.rp 900001 1 s6.toNat 0) _ rfl ?_; refine Y1 rfl ?_; refine bindK h fun x48 hx48 h => ?_; refine W.elem rfl (elemG hx48) ?_; refine W.det (.agg (Arr2_Int.av x48)) _ rfl ?_; refine Zm (.lp 6 2 0) (Mem.add _ 6 (.box [VI 0, VI 0])) rfl rfl ?_; refine Zm (.tup []) (Mem.set _ 6 2 (some (.box (Arr2_Int.av x48)))) rfl rfl ?_; refine Zpp 4 rfl ?_; refine Y1 rfl ?_; refine W.chk rfl (by decide) ?_; refine W.det (.lp 6 2 0) _ rfl ?_; refine Zpp 3 rfl ?_; refine YF rfl rfl rfl h (fun _ h => ?_) (fun _ h => ?_)
        · refine Zpb 16 rfl ?_; refine headK.r ?_; refine Zob 1 rfl ?_; refine headK.r ?_; cases h; cases hG; exact ⟨rfl, trivial⟩
        · refine W.chk rfl (by decide) ?_; refine W.det (.lp 6 2 0) _ rfl ?_; refine Zpp 1 rfl ?_; refine Y2 rfl rfl rfl ?_; refine W.chk rfl (by decide) ?_; refine W.det (.lp 6 2 1) _ rfl ?_; refine Zpc 5 rfl ?_; refine A.condB rfl h (fun _ h => ?_) (fun _ h => ?_)
          · refine Zcb 8 rfl ?_; refine headK.r ?_; refine Zob 1 rfl ?_; refine headK.r ?_; cases h; cases hG; exact ⟨rfl, trivial⟩
          · refine Zcb 7 rfl ?_; cases h; exact Zh hG [] [(900000, (900000, 1)), (900001, (900001, 1))] rfl rfl (Ze rfl rfl (Ze rfl rfl (Ze rfl rfl (Ze rfl rfl trivial)))) (Zc rfl rfl (Zc rfl rfl trivial))
      · refine Zcb 2 rfl ?_; refine headK.e ?_; refine Zob 1 rfl ?_; cases h; exact Zh hG [] [(900000, (900000, 1))] rfl rfl (Ze rfl rfl trivial) (Zc rfl rfl trivial)
    · intro s5 r2 h hG; refine Zcc 2 rfl ?_; refine A.join (fun (s8 : Bool) => [(1, .lp 900000 1 0), (73, VB s8)]) (fun s8 => [(900000, .box (api_Profile.av p_))]) _ h hG rfl ?_ ?_
      · intro J f h hG; refine Zap 4 rfl ?_; refine Y1 rfl ?_; refine bindK h fun y52 hy52 h => ?_; refine W.call rfl (lex_Word_fn hy52) ?_; refine Zwc 5 rfl ?_; refine A.condB rfl h (fun _ h => ?_) (fun _ h => ?_)
        · refine Zcb 1 rfl ?_; cases h; exact Zh hG [] [(900000, (900000, 1))] rfl rfl (Ze rfl rfl (Ze rfl rfl trivial)) (Zc rfl rfl trivial)
        · refine Zcp 6 rfl ?_; refine YT rfl rfl rfl h (fun _ h => ?_) (fun _ h => ?_)
          · refine Zwc 7 rfl ?_; refine A.condB rfl h (fun _ h => ?_) (fun _ h => ?_)
            · refine Zcb 1 rfl ?_; cases h; exact Zh hG [] [(900000, (900000, 1))] rfl rfl (Ze rfl rfl (Ze rfl rfl trivial)) (Zc rfl rfl trivial)
            · refine Zcp 5 rfl ?_; refine YT rfl rfl rfl h (fun _ h => ?_) (fun _ h => ?_)
              · refine Zwb 6 rfl ?_; cases h; exact Zh hG [] [(900000, (900000, 1))] rfl rfl (Ze rfl rfl (Ze rfl rfl trivial)) (Zc rfl rfl trivial)
              · refine Zpb 5 rfl ?_; cases h; exact Zh hG [] [(900000, (900000, 1))] rfl rfl (Ze rfl rfl (Ze rfl rfl trivial)) (Zc rfl rfl trivial)
          · refine Zpp 12 rfl ?_; refine YT rfl rfl rfl h (fun _ h => ?_) (fun _ h => ?_)
            · refine Zwb 6 rfl ?_; cases h; exact Zh hG [] [(900000, (900000, 1))] rfl rfl (Ze rfl rfl (Ze rfl rfl trivial)) (Zc rfl rfl trivial)
            · refine Zpb 5 rfl ?_; cases h; exact Zh hG [] [(900000, (900000, 1))] rfl rfl (Ze rfl rfl (Ze rfl rfl trivial)) (Zc rfl rfl trivial)
      · intro s8 r2 h hG; refine A.condB rfl h (fun _ h => ?_) (fun _ h => ?_)
        · refine Zcb 8 rfl ?_; cases h; cases hG; exact ⟨rfl, trivial⟩
        · refine Zcc 8 rfl ?_; refine A.condB rfl h (fun _ h => ?_) (fun _ h => ?_)
          · refine Zcp 6 rfl ?_; refine YT rfl rfl rfl h (fun _ h => ?_) (fun _ h => ?_)
            · refine Zwp 2 rfl ?_; refine Y2 rfl rfl rfl ?_; refine W.len rfl ?_; refine Zpb 8 rfl ?_; cases h; cases hG; exact ⟨rfl, trivial⟩
            · refine Zpb 10 rfl ?_; cases h; cases hG; exact ⟨rfl, trivial⟩
          · refine Zcp 7 rfl ?_; refine Y1 rfl ?_; refine W.len rfl ?_; refine Zpp 2 rfl ?_; refine YT rfl rfl rfl h (fun _ h => ?_) (fun _ h => ?_)
            · refine Zwp 2 rfl ?_; refine Y2 rfl rfl rfl ?_; refine W.len rfl ?_; refine Zpp 3 rfl ?_; refine YT rfl rfl rfl h (fun _ h => ?_) (fun _ h => ?_)
              · refine Zwp 2 rfl ?_; refine Y2 rfl rfl rfl ?_; refine bindK h fun y53 hy53 h => ?_; refine W.call rfl (slices_ContainsFunc_string_string_fn (f_F := 62) (f_C := []) rfl (fun _ _ h => syntax_Right_1_fn h) hy53) ?_; refine Zwb 7 rfl ?_; cases h; cases hG; exact ⟨rfl, trivial⟩
              · refine Zpb 8 rfl ?_; cases h; cases hG; exact ⟨rfl, trivial⟩
            · refine Zpb 14 rfl ?_; cases h; cases hG; exact ⟨rfl, trivial⟩
noncomputable def profile_within (n_ : Int) (from_ : Int) (to_ : Int) : Option (Bool) :=
  (bif (decide (from_ ≤ n_)) then
    some (decide (n_ ≤ to_))
  else
    some false)
theorem profile_within_fn {n_ : Int} {from_ : Int} {to_ : Int} {r : Bool} (h : profile_within n_ from_ to_ = some r) : Fn Tryz.prog 44 [VI n_, VI from_, VI to_] (VB r) := by
  refine Fn.of_AW (F := FnX Tryz.prog) (base := 0) (js := []) mixed tok noeqs (fun _ _ _ h => h) Tryz.call44 Tryz.func44 rfl Tryz.ntmps44 (by rw [Tryz.results44]) (by simp) ?_; have hG : (fun x => x = r) r := rfl; unfold profile_within at h; refine Zap 11 rfl ?_; refine YT rfl rfl rfl h (fun _ h => ?_) (fun _ h => ?_)
  · refine Zwb 8 rfl ?_; cases h; cases hG; exact ⟨rfl, trivial⟩
  · refine Zpb 7 rfl ?_; cases h; cases hG; exact ⟨rfl, trivial⟩
noncomputable def profile_together (p_ : api_Profile) : Option (Bool) :=
  (bif ((p_.Files == (0 : Int)) == (p_.Bytes == (0 : Int))) then
    some ((p_.Files == (0 : Int)) == ((p_.Types.length : Int) == (0 : Int)))
  else
    some false)
theorem profile_together_fn {p_ : api_Profile} {r : Bool} (h : profile_together p_ = some r) : Fn Tryz.prog 45 [.agg (api_Profile.av p_)] (VB r) := by
  refine Fn.of_AW (F := FnX Tryz.prog) (base := 0) (js := []) mixed tok noeqs (fun _ _ _ h => h) Tryz.call45 Tryz.func45 rfl Tryz.ntmps45 (by rw [Tryz.results45]) (by simp) ?_; have hG : (fun x => x = r) r := rfl; unfold profile_together at h; refine Zap 2 rfl ?_; refine Zm (.lp 1 1 0) (Mem.add _ 1 (.box (api_Profile.av p_))) rfl rfl ?_; refine Zpp 13 rfl ?_; refine YT rfl rfl rfl h (fun _ h => ?_) (fun _ h => ?_)
  · refine Zwp 5 rfl ?_; refine Y2 rfl rfl rfl ?_; refine W.len rfl ?_; refine Zpb 7 rfl ?_; cases h; cases hG; exact ⟨rfl, trivial⟩
  · refine Zpb 12 rfl ?_; cases h; cases hG; exact ⟨rfl, trivial⟩
noncomputable def slices_Index_string_string_L1 (s_ : (List ByteArray)) (v_ : ByteArray) (s3 : Int) : Option ((Int) ⊕ ((Unit) ⊕ (Int))) :=
  (bif (decide (s3 < (s_.length : Int))) then
    (getI s_ s3).bind fun x12 =>
    (bif (v_.toList == x12.toList) then
      some (.inr (.inr s3))
    else
      some (.inl (IntKind.i64.wrap (s3 + (1 : Int)))))
  else
    some (.inr (.inl ())))
noncomputable def slices_Index_string_string (s_ : (List ByteArray)) (v_ : ByteArray) : Option (Int) :=
  (seqF (A := Unit) (
    loopF (slices_Index_string_string_L1 s_ v_) (0 : Int))
  fun s2 =>
    some (-1 : Int))
theorem slices_Index_string_string_fn {s_ : (List ByteArray)} {v_ : ByteArray} {r : Int} (h : slices_Index_string_string s_ v_ = some r) : Fn Tryz.prog 63 [VF (List.map encS s_), VS v_] (VI r) := by
  refine Fn.of_AW (F := FnX Tryz.prog) (base := 0) (js := [7]) mixed tok noeqs (fun _ _ _ h => h) Tryz.call63 Tryz.func63 rfl Tryz.ntmps63 (by rw [Tryz.results63]) (by simp) ?_; have hG : (fun x => x = r) r := rfl; unfold slices_Index_string_string at h; refine Zac 5 rfl ?_; refine A.join (fun (s2 : Unit) => []) (fun s2 => []) _ h hG rfl ?_ ?_
  · intro J f h hG; refine Zap 3 rfl ?_; refine Y1 rfl ?_; refine W.len rfl ?_; refine Zpc 4 rfl ?_; refine A.loop (fun (s3 : Int) => [(0, VF (List.map encS s_)), (1, VS v_), (7, VI (s_.length : Int)), (8, VI s3)]) (fun s3 => []) _ h hG (Zf [] [] rfl rfl (Ze rfl rfl (Ze rfl rfl (Ze rfl rfl (Ze rfl rfl trivial)))) trivial) ?_; intro J s3 f h hG; unfold slices_Index_string_string_L1 at h; refine Zac 6 rfl ?_; refine A.condB rfl h (fun _ h => ?_) (fun _ h => ?_)
    · refine Zcp 15 rfl ?_; refine Y1 rfl ?_; refine bindK h fun x12 hx12 h => ?_; refine W.chk rfl (elemB hx12) ?_; refine W.elem rfl (elemG hx12) ?_; refine W.chk rfl rfl ?_; refine W.det (.fp [.v (.string x12)]) _ rfl ?_; refine Zpc 4 rfl ?_; refine A.condB rfl h (fun _ h => ?_) (fun _ h => ?_)
      · refine Zcb 9 rfl ?_; refine headK.r ?_; refine Zob 1 rfl ?_; refine headK.r ?_; cases h; cases hG; exact ⟨rfl, trivial⟩
      · refine Zcb 7 rfl ?_; cases h; exact Zh hG [] [] rfl rfl (Ze rfl rfl (Ze rfl rfl (Ze rfl rfl (Ze rfl rfl trivial)))) trivial
    · refine Zcb 2 rfl ?_; refine headK.e ?_; refine Zob 1 rfl ?_; cases h; exact Zh hG [] [] rfl rfl trivial trivial
  · intro s2 r2 h hG; refine Zcb 6 rfl ?_; cases h; cases hG; exact ⟨rfl, trivial⟩
noncomputable def slices_Contains_string_string (s_ : (List ByteArray)) (v_ : ByteArray) : Option (Bool) :=
  (slices_Index_string_string s_ v_).bind fun y1 =>
  some (decide ((0 : Int) ≤ y1))
theorem slices_Contains_string_string_fn {s_ : (List ByteArray)} {v_ : ByteArray} {r : Bool} (h : slices_Contains_string_string s_ v_ = some r) : Fn Tryz.prog 46 [VF (List.map encS s_), VS v_] (VB r) := by
  refine Fn.of_AW (F := FnX Tryz.prog) (base := 0) (js := []) mixed tok noeqs (fun _ _ _ h => h) Tryz.call46 Tryz.func46 rfl Tryz.ntmps46 (by rw [Tryz.results46]) (by simp) ?_; have hG : (fun x => x = r) r := rfl; unfold slices_Contains_string_string at h; refine Zap 9 rfl ?_; refine Y1 rfl ?_; refine bindK h fun y1 hy1 h => ?_; refine W.call rfl (slices_Index_string_string_fn hy1) ?_; refine Zwb 6 rfl ?_; cases h; cases hG; exact ⟨rfl, trivial⟩
noncomputable def profile_Check_L1 (p_ : api_Profile) (s3 : Int) : Option ((Int) ⊕ ((Unit) ⊕ (Int))) :=
  (bif (decide (s3 < (p_.Types.length : Int))) then
    (getI p_.Types s3).bind fun x51 =>
    (chkO (cutO (0 : Int) s3 (p_.Types.length : Int))).bind fun _ =>
    (slices_Contains_string_string (List.drop (0 : Int).toNat (List.take s3.toNat p_.Types)) x51).bind fun y53 =>
    (bif y53 then
      some (.inr (.inr (5 : Int)))
    else
      some (.inl (IntKind.i64.wrap (s3 + (1 : Int)))))
  else
    some (.inr (.inl ())))
noncomputable def profile_Check_L2 (p_ : api_Profile) (s6 : Int) : Option ((Int) ⊕ ((Unit) ⊕ (Int))) :=
  (bif (decide (s6 < (p_.Types.length : Int))) then
    (getI p_.Types s6).bind fun x88 =>
    (chkO (cutO (0 : Int) s6 (p_.Types.length : Int))).bind fun _ =>
    (slices_Contains_string_string (List.drop (0 : Int).toNat (List.take s6.toNat p_.Types)) x88).bind fun y90 =>
    (bif y90 then
      some (.inr (.inr (5 : Int)))
    else
      some (.inl (IntKind.i64.wrap (s6 + (1 : Int)))))
  else
    some (.inr (.inl ())))
noncomputable def profile_Check (p_ : api_Profile) : Option (Int) :=
  (syntax_Right p_).bind fun y2 =>
  (bif (!y2) then
    some (1 : Int)
  else
    (profile_within p_.Size (40 : Int) (4000 : Int)).bind fun y15 =>
    (bif (!y15) then
      some (3 : Int)
    else
      (profile_within p_.Parts (1 : Int) (20 : Int)).bind fun y16 =>
      (bif (!y16) then
        some (3 : Int)
      else
        (bif (decide ((4 : Int) < p_.Files)) then
          some (3 : Int)
        else
          (bif (decide ((65536 : Int) < p_.Bytes)) then
            some (3 : Int)
          else
            (bif (decide (p_.Rate < (1 : Int))) then
              some (3 : Int)
            else
              (bif (p_.Down != (0 : Int)) then
                (bif (decide (p_.Window ≤ p_.Down)) then
                  some (3 : Int)
                else
                  (profile_together p_).bind fun y17 =>
                  (bif (!y17) then
                    some (3 : Int)
                  else
                    (seqF (A := Unit) (
                      loopF (profile_Check_L1 p_) (0 : Int))
                    fun s2 =>
                      some (0 : Int))))
              else
                (profile_together p_).bind fun y54 =>
                (bif (!y54) then
                  some (3 : Int)
                else
                  (seqF (A := Unit) (
                    loopF (profile_Check_L2 p_) (0 : Int))
                  fun s5 =>
                    some (0 : Int))))))))))
theorem profile_Check_fn {p_ : api_Profile} {r : Int} (h : profile_Check p_ = some r) : Fn Tryz.prog 25 [.agg (api_Profile.av p_)] (VI r) := by
  refine Fn.of_AW (F := FnX Tryz.prog) (base := 0) (js := [11]) mixed tok noeqs (fun _ _ _ h => h) Tryz.call25 Tryz.func25 rfl Tryz.ntmps25 (by rw [Tryz.results25]) (by simp) ?_; have hG : (fun x => x = r) r := rfl; unfold profile_Check at h; refine Zap 2 rfl ?_; refine Zm (.lp 1 1 0) (Mem.add _ 1 (.box (api_Profile.av p_))) rfl rfl ?_; refine Zpp 6 rfl ?_; refine Zo (.agg (api_Profile.av p_)) rfl rfl ?_; refine Y1 rfl ?_; refine bindK h fun y2 hy2 h => ?_; refine W.call rfl (syntax_Right_fn hy2) ?_; refine Zwc 4 rfl ?_; refine A.condB rfl h (fun _ h => ?_) (fun _ h => ?_)
  · refine Zcb 7 rfl ?_; cases h; cases hG; exact ⟨rfl, trivial⟩
  · refine Zcp 7 rfl ?_; refine Y1 rfl ?_; refine bindK h fun y15 hy15 h => ?_; refine W.call rfl (profile_within_fn hy15) ?_; refine Zwp 3 rfl ?_; refine YF rfl rfl rfl h (fun _ h => ?_) (fun _ h => ?_)
    · refine Zpb 46 rfl ?_; cases h; cases hG; exact ⟨rfl, trivial⟩
    · refine Zwp 2 rfl ?_; refine Y2 rfl rfl rfl ?_; refine bindK h fun y16 hy16 h => ?_; refine W.call rfl (profile_within_fn hy16) ?_; refine Zwp 4 rfl ?_; refine YF rfl rfl rfl h (fun _ h => ?_) (fun _ h => ?_)
      · refine Zpb 40 rfl ?_; cases h; cases hG; exact ⟨rfl, trivial⟩
      · refine Zwp 5 rfl ?_; refine YF rfl rfl rfl h (fun _ h => ?_) (fun _ h => ?_)
        · refine Zpb 35 rfl ?_; cases h; cases hG; exact ⟨rfl, trivial⟩
        · refine Zwp 5 rfl ?_; refine YF rfl rfl rfl h (fun _ h => ?_) (fun _ h => ?_)
          · refine Zpb 30 rfl ?_; cases h; cases hG; exact ⟨rfl, trivial⟩
          · refine Zwp 5 rfl ?_; refine YF rfl rfl rfl h (fun _ h => ?_) (fun _ h => ?_)
            · refine Zpb 25 rfl ?_; cases h; cases hG; exact ⟨rfl, trivial⟩
            · refine Zwp 4 rfl ?_; refine YT rfl rfl rfl h (fun _ h => ?_) (fun _ h => ?_)
              · refine Zwp 8 rfl ?_; refine YF rfl rfl rfl h (fun _ h => ?_) (fun _ h => ?_)
                · refine Zpb 13 rfl ?_; cases h; cases hG; exact ⟨rfl, trivial⟩
                · refine W.det (.agg (api_Profile.av p_)) _ rfl ?_; refine Y2 rfl rfl rfl ?_; refine bindK h fun y17 hy17 h => ?_; refine W.call rfl (profile_together_fn hy17) ?_; refine Zwc 5 rfl ?_; refine A.condB rfl h (fun _ h => ?_) (fun _ h => ?_)
                  · refine Zcb 7 rfl ?_; cases h; cases hG; exact ⟨rfl, trivial⟩
                  · refine Zcc 2 rfl ?_; refine A.join (fun (s2 : Unit) => []) (fun s2 => []) _ h hG rfl ?_ ?_
                    · intro J f h hG; refine Zap 4 rfl ?_; refine Y1 rfl ?_; refine W.len rfl ?_; refine Zpc 4 rfl ?_; refine A.loop (fun (s3 : Int) => [(1, .lp 900000 1 0), (51, VF (List.map encS p_.Types)), (52, VI (p_.Types.length : Int)), (53, VI s3)]) (fun s3 => [(900000, .box (api_Profile.av p_))]) _ h hG (Zf [] [(900000, (1, 1))] rfl rfl (Ze rfl rfl (Ze rfl rfl (Ze rfl rfl (Ze rfl rfl trivial)))) (Zc rfl rfl trivial)) ?_; intro J s3 f h hG; unfold profile_Check_L1 at h; refine Zac 6 rfl ?_; refine A.condB rfl h (fun _ h => ?_) (fun _ h => ?_)
                      · refine Zcp 7 rfl ?_; refine Y1 rfl ?_; refine bindK h fun x51 hx51 h => ?_; refine W.chk rfl (elemB hx51) ?_; refine W.elem rfl (elemG hx51) ?_; refine W.chk rfl rfl ?_; refine W.det (.fp [.v (.string x51)]) _ rfl ?_; refine Zpp 10 rfl ?_; refine Y1 rfl ?_; refine chkK h fun g52 h => ?_; refine W.chk rfl (cutO_map (fun _ => rfl) g52) ?_; refine W.cut rfl ?_; refine Zpp 1 rfl ?_; refine Y1 rfl ?_; refine bindK h fun y53 hy53 h => ?_; refine W.call rfl (slices_Contains_string_string_fn hy53) ?_; refine Zwc 3 rfl ?_; refine A.condB rfl h (fun _ h => ?_) (fun _ h => ?_)
                        · refine Zcb 8 rfl ?_; refine headK.r ?_; refine Zob 1 rfl ?_; refine headK.r ?_; cases h; cases hG; exact ⟨rfl, trivial⟩
                        · refine Zcb 7 rfl ?_; cases h; exact Zh hG [] [(900000, (900000, 1))] rfl rfl (Ze rfl rfl (Ze rfl rfl (Ze rfl rfl (Ze rfl rfl trivial)))) (Zc rfl rfl trivial)
                      · refine Zcb 2 rfl ?_; refine headK.e ?_; refine Zob 1 rfl ?_; cases h; exact Zh hG [] [] rfl rfl trivial trivial
                    · intro s2 r2 h hG; refine Zcb 6 rfl ?_; cases h; cases hG; exact ⟨rfl, trivial⟩
              · refine Zpp 7 rfl ?_; refine Zu (.agg (api_Profile.av p_)) rfl rfl rfl rfl ?_; refine Y2 rfl rfl rfl ?_; refine bindK h fun y54 hy54 h => ?_; refine W.call rfl (profile_together_fn hy54) ?_; refine Zwc 5 rfl ?_; refine A.condB rfl h (fun _ h => ?_) (fun _ h => ?_)
                · refine Zcb 7 rfl ?_; cases h; cases hG; exact ⟨rfl, trivial⟩
                · refine Zcc 2 rfl ?_; refine A.join (fun (s5 : Unit) => []) (fun s5 => []) _ h hG rfl ?_ ?_
                  · intro J f h hG; refine Zap 4 rfl ?_; refine Y1 rfl ?_; refine W.len rfl ?_; refine Zpc 4 rfl ?_; refine A.loop (fun (s6 : Int) => [(1, .lp 900000 1 0), (51, VF (List.map encS p_.Types)), (52, VI (p_.Types.length : Int)), (53, VI s6)]) (fun s6 => [(900000, .box (api_Profile.av p_))]) _ h hG (Zf [] [(900000, (1, 1))] rfl rfl (Ze rfl rfl (Ze rfl rfl (Ze rfl rfl (Ze rfl rfl trivial)))) (Zc rfl rfl trivial)) ?_; intro J s6 f h hG; unfold profile_Check_L2 at h; refine Zac 6 rfl ?_; refine A.condB rfl h (fun _ h => ?_) (fun _ h => ?_)
                    · refine Zcp 7 rfl ?_; refine Y1 rfl ?_; refine bindK h fun x88 hx88 h => ?_; refine W.chk rfl (elemB hx88) ?_; refine W.elem rfl (elemG hx88) ?_; refine W.chk rfl rfl ?_; refine W.det (.fp [.v (.string x88)]) _ rfl ?_; refine Zpp 10 rfl ?_; refine Y1 rfl ?_; refine chkK h fun g89 h => ?_; refine W.chk rfl (cutO_map (fun _ => rfl) g89) ?_; refine W.cut rfl ?_; refine Zpp 1 rfl ?_; refine Y1 rfl ?_; refine bindK h fun y90 hy90 h => ?_; refine W.call rfl (slices_Contains_string_string_fn hy90) ?_; refine Zwc 3 rfl ?_; refine A.condB rfl h (fun _ h => ?_) (fun _ h => ?_)
                      · refine Zcb 8 rfl ?_; refine headK.r ?_; refine Zob 1 rfl ?_; refine headK.r ?_; cases h; cases hG; exact ⟨rfl, trivial⟩
                      · refine Zcb 7 rfl ?_; cases h; exact Zh hG [] [(900000, (900000, 1))] rfl rfl (Ze rfl rfl (Ze rfl rfl (Ze rfl rfl (Ze rfl rfl trivial)))) (Zc rfl rfl trivial)
                    · refine Zcb 2 rfl ?_; refine headK.e ?_; refine Zob 1 rfl ?_; cases h; exact Zh hG [] [] rfl rfl trivial trivial
                  · intro s5 r2 h hG; refine Zcb 6 rfl ?_; cases h; cases hG; exact ⟨rfl, trivial⟩
structure api_Job where
  Id : Int
  Size : Int
  Due : Int
def api_Job.enc (x : api_Job) : List D := [.v (.int .i64 x.Id), .v (.int .i64 x.Size), .v (.int .i64 x.Due)]
abbrev api_Job.av (x : api_Job) : List AV := [VI x.Id, VI x.Size, VI x.Due]
noncomputable def admit_valid_L1 (jobs_ : (List api_Job)) (s3 : Int × (List (Int × Bool))) : Option ((Int × (List (Int × Bool))) ⊕ ((Unit) ⊕ (Bool))) :=
  (bif (decide (s3.1 < (jobs_.length : Int))) then
    (getI jobs_ s3.1).bind fun x12 =>
    (bif (decide (x12.Id < (0 : Int))) then
      some (.inr (.inr false))
    else
      (bif (mgetT x12.Id s3.2 false) then
        some (.inr (.inr false))
      else
        (bif (decide (x12.Size < (1 : Int))) then
          some (.inr (.inr false))
        else
          (bif (decide ((1099511627776 : Int) < x12.Size)) then
            some (.inr (.inr false))
          else
            (bif (decide (x12.Due < (0 : Int))) then
              some (.inr (.inr false))
            else
              (bif (decide ((1073741824 : Int) < x12.Due)) then
                some (.inr (.inr false))
              else
                some (.inl ((IntKind.i64.wrap (s3.1 + (1 : Int))), (mputT x12.Id true s3.2)))))))))
  else
    some (.inr (.inl ())))
noncomputable def admit_valid (jobs_ : (List api_Job)) : Option (Bool) :=
  (seqF (A := Unit) (
    loopF (admit_valid_L1 jobs_) ((0 : Int), ([] : List (Int × Bool))))
  fun s2 =>
    some (decide ((jobs_.length : Int) ≤ (1000 : Int))))
theorem admit_valid_fn {jobs_ : (List api_Job)} {r : Bool} (h : admit_valid jobs_ = some r) : Fn Tryz.prog 53 [VF (List.map api_Job.enc jobs_)] (VB r) := by
  refine Fn.of_AW (F := FnX Tryz.prog) (base := 0) (js := [9]) mixed tok noeqs (fun _ _ _ h => h) Tryz.call53 Tryz.func53 rfl Tryz.ntmps53 (by rw [Tryz.results53]) (by simp) ?_; have hG : (fun x => x = r) r := rfl; unfold admit_valid at h; refine Zap 7 rfl ?_; refine Zm (.mp 6 1) (Mem.add _ 6 (.mapi (.i .i64) (mapE (Value.int .i64) vB ([] : List (Int × Bool))))) rfl rfl ?_; refine Zo (.mp 6 1) rfl rfl ?_; refine Zpc 2 rfl ?_; refine A.join (fun (s2 : Unit) => [(0, VF (List.map api_Job.enc jobs_))]) (fun s2 => []) _ h hG rfl ?_ ?_
  · intro J f h hG; refine Zap 3 rfl ?_; refine Y1 rfl ?_; refine W.len rfl ?_; refine Zpc 4 rfl ?_; refine A.loop (fun (s3 : Int × (List (Int × Bool))) => [(0, VF (List.map api_Job.enc jobs_)), (3, .mp 900000 1), (7, VF (List.map api_Job.enc jobs_)), (8, VI (jobs_.length : Int)), (9, VI s3.1)]) (fun s3 => [(900000, .mapi (.i .i64) (mapE (Value.int .i64) vB s3.2))]) _ h hG (Zf [] [(900000, (6, 1))] rfl rfl (Ze rfl rfl (Ze rfl rfl (Ze rfl rfl (Ze rfl rfl (Ze rfl rfl trivial))))) (Zc rfl rfl trivial)) ?_; intro J s3 f h hG; unfold admit_valid_L1 at h; refine Zac 6 rfl ?_; refine A.condB rfl h (fun _ h => ?_) (fun _ h => ?_)
    · refine Zcp 6 rfl ?_; refine Y1 rfl ?_; refine bindK h fun x12 hx12 h => ?_; refine W.chk rfl (elemB hx12) ?_; refine W.elem rfl (elemG hx12) ?_; refine W.chk rfl rfl ?_; refine W.det (.fp [.v (.int .i64 x12.Id), .v (.int .i64 x12.Size), .v (.int .i64 x12.Due)]) _ rfl ?_; refine Zo (.agg (api_Job.av x12)) rfl rfl ?_; refine Zm (.lp 5 2 0) (Mem.add _ 5 (.box [VI 0, VI 0, VI 0])) rfl rfl ?_; refine Zm (.tup []) (Mem.set _ 5 2 (some (.box (api_Job.av x12)))) rfl rfl ?_; refine Zpp 9 rfl ?_; refine YF rfl rfl rfl h (fun _ h => ?_) (fun _ h => ?_)
      · refine Zpb 36 rfl ?_; refine headK.r ?_; refine Zob 1 rfl ?_; refine headK.r ?_; cases h; cases hG; exact ⟨rfl, trivial⟩
      · refine W.det (.mp 900000 1) _ rfl ?_; refine Zpp 2 rfl ?_; refine Y2 rfl rfl rfl ?_; refine W.look (Value.int .i64) vB x12.Id s3.2 false (fun _ _ => rfl) rfl ?_; refine Zpp 2 rfl ?_; refine YF rfl rfl rfl h (fun _ h => ?_) (fun _ h => ?_)
        · refine Zpb 30 rfl ?_; refine headK.r ?_; refine Zob 1 rfl ?_; refine headK.r ?_; cases h; cases hG; exact ⟨rfl, trivial⟩
        · refine Zwp 5 rfl ?_; refine YF rfl rfl rfl h (fun _ h => ?_) (fun _ h => ?_)
          · refine Zpb 25 rfl ?_; refine headK.r ?_; refine Zob 1 rfl ?_; refine headK.r ?_; cases h; cases hG; exact ⟨rfl, trivial⟩
          · refine Zwp 5 rfl ?_; refine YF rfl rfl rfl h (fun _ h => ?_) (fun _ h => ?_)
            · refine Zpb 20 rfl ?_; refine headK.r ?_; refine Zob 1 rfl ?_; refine headK.r ?_; cases h; cases hG; exact ⟨rfl, trivial⟩
            · refine Zwp 5 rfl ?_; refine YF rfl rfl rfl h (fun _ h => ?_) (fun _ h => ?_)
              · refine Zpb 15 rfl ?_; refine headK.r ?_; refine Zob 1 rfl ?_; refine headK.r ?_; cases h; cases hG; exact ⟨rfl, trivial⟩
              · refine Zwc 6 rfl ?_; refine A.condB rfl h (fun _ h => ?_) (fun _ h => ?_)
                · refine Zcb 9 rfl ?_; refine headK.r ?_; refine Zob 1 rfl ?_; refine headK.r ?_; cases h; cases hG; exact ⟨rfl, trivial⟩
                · refine Zcp 3 rfl ?_; refine Zo (.mp 900000 1) rfl rfl ?_; refine Zpp 2 rfl ?_; refine Y1 rfl ?_; refine W.mput (Value.int .i64) vB x12.Id true s3.2 (fun _ _ => rfl) rfl ?_; refine Zpb 7 rfl ?_; cases h; exact Zh hG [] [(900000, (900000, 1))] rfl rfl (Ze rfl rfl (Ze rfl rfl (Ze rfl rfl (Ze rfl rfl (Ze rfl rfl trivial))))) (Zc rfl rfl trivial)
    · refine Zcb 2 rfl ?_; refine headK.e ?_; refine Zob 1 rfl ?_; cases h; exact Zh hG [] [] rfl rfl (Ze rfl rfl trivial) trivial
  · intro s2 r2 h hG; refine Zcp 3 rfl ?_; refine Y1 rfl ?_; refine W.len rfl ?_; refine Zpb 5 rfl ?_; cases h; cases hG; exact ⟨rfl, trivial⟩
noncomputable def slices_Clone_api_Job_api_Job_a : Option ((List api_Job)) :=
  some ([] : List api_Job)
theorem slices_Clone_api_Job_api_Job_a_fn {r : (List api_Job)} (h : slices_Clone_api_Job_api_Job_a = some r) : Fn Tryz.prog 54 [.d (.v (.slice none 0 0))] (.ow 3 (List.map api_Job.enc r)) := by
  refine Fn.of_AW (F := FnX Tryz.prog) (base := 0) (js := []) mixed tok noeqs (fun _ _ _ h => h) Tryz.call54 Tryz.func54 rfl Tryz.ntmps54 (by rw [Tryz.results54]) (by simp) ?_; have hG : (fun x => x = r) r := rfl; unfold slices_Clone_api_Job_api_Job_a at h; refine Zap 2 rfl ?_; refine Zm (.row 2 1 0) (Mem.add _ 2 (.rows 3 (List.map api_Job.enc ([] : List api_Job)) false)) rfl rfl ?_; refine Zpp 5 rfl ?_; refine Zo (.d (.v (.slice none 0 0))) rfl rfl ?_; refine Zpp 6 rfl ?_; refine Zm (.row 2 2 0) (Mem.add _ 2 (.rows 3 (List.map api_Job.enc ([] : List api_Job)) false)) rfl rfl ?_; refine Zpb 4 rfl ?_; cases h; cases hG; exact ⟨rfl, rfl, trivial⟩
noncomputable def slices_Clone_api_Job_api_Job_b (a_ : Addr) (c_ : Nat) : Option ((List api_Job)) :=
  (chkO (decide (0 + ([] : List api_Job).length ≤ 1000000))).bind fun _ =>
  some (([] : List api_Job) ++ ([] : List api_Job))
theorem slices_Clone_api_Job_api_Job_b_fn {a_ : Addr} {c_ : Nat} {r : (List api_Job)} (h : slices_Clone_api_Job_api_Job_b a_ c_ = some r) : Fn Tryz.prog 54 [.d (.v (.slice (some a_) 0 c_))] (.ow 3 (List.map api_Job.enc r)) := by
  refine Fn.of_AW (F := FnX Tryz.prog) (base := 0) (js := []) mixed tok noeqs (fun _ _ _ h => h) Tryz.call54 Tryz.func54 rfl Tryz.ntmps54 (by rw [Tryz.results54]) (by simp) ?_; have hG : (fun x => x = r) r := rfl; unfold slices_Clone_api_Job_api_Job_b at h; refine Zap 2 rfl ?_; refine Zm (.row 2 1 0) (Mem.add _ 2 (.rows 3 (List.map api_Job.enc ([] : List api_Job)) false)) rfl rfl ?_; refine Zpp 5 rfl ?_; refine Zo (.d (.v (.slice (some a_) 0 c_))) rfl rfl ?_; refine Zpp 8 rfl ?_; refine Zm (.row 5 1 0) (Mem.add _ 5 (.rows 3 (List.map api_Job.enc ([] : List api_Job)) false)) rfl rfl ?_; refine Zo (.d (.v (.slice (some a_) 0 c_))) rfl rfl ?_; refine Y1 rfl ?_; refine chkK h fun g1 h => ?_; refine W.chk rfl ⟨fun _ hc => (by cases hc), of_decide_eq_true g1⟩ ?_; refine W.rows (0 + (List.map api_Job.enc ([] : List api_Job)).length) (([] : List api_Job) ++ ([] : List api_Job)).length ([] ++ (List.map api_Job.enc ([] : List api_Job))) (List.map api_Job.enc (([] : List api_Job) ++ ([] : List api_Job))) rfl (by first | rfl | (simp; done) | simp only [partMap, List.length_map, List.length_append, List.nil_append, Nat.zero_add, List.length_nil]) (by first | rfl | (simp; done) | simp only [partMap, List.map_append, List.nil_append, List.map_nil]) ?_; refine Zo (.row 5 2 (([] : List api_Job) ++ ([] : List api_Job)).length) rfl rfl ?_; refine Zpb 3 rfl ?_; cases h; cases hG; exact ⟨rfl, rfl, trivial⟩
noncomputable def slices_Clone_api_Job_api_Job_c (x_ : api_Job) (s_ : (List api_Job)) : Option ((List api_Job)) :=
  (chkO (decide (0 + (x_ :: s_).length ≤ 1000000))).bind fun _ =>
  some (([] : List api_Job) ++ (x_ :: s_))
theorem slices_Clone_api_Job_api_Job_c_fn {x_ : api_Job} {s_ : (List api_Job)} {r : (List api_Job)} (h : slices_Clone_api_Job_api_Job_c x_ s_ = some r) : Fn Tryz.prog 54 [VF (List.map api_Job.enc (x_ :: s_))] (.ow 3 (List.map api_Job.enc r)) := by
  refine Fn.of_AW (F := FnX Tryz.prog) (base := 0) (js := []) mixed tok noeqs (fun _ _ _ h => h) Tryz.call54 Tryz.func54 rfl Tryz.ntmps54 (by rw [Tryz.results54]) (by simp) ?_; have hG : (fun x => x = r) r := rfl; unfold slices_Clone_api_Job_api_Job_c at h; refine Zap 2 rfl ?_; refine Zm (.row 2 1 0) (Mem.add _ 2 (.rows 3 (List.map api_Job.enc ([] : List api_Job)) false)) rfl rfl ?_; refine Zpp 14 rfl ?_; refine Zm (.row 5 1 0) (Mem.add _ 5 (.rows 3 (List.map api_Job.enc ([] : List api_Job)) false)) rfl rfl ?_; refine Zpp 1 rfl ?_; refine Y1 rfl ?_; refine chkK h fun g1 h => ?_; refine W.chk rfl (appChk (fun _ => rfl) g1) ?_; refine W.rows (0 + (List.map api_Job.enc (x_ :: s_)).length) (([] : List api_Job) ++ (x_ :: s_)).length ([] ++ (List.map api_Job.enc (x_ :: s_))) (List.map api_Job.enc (([] : List api_Job) ++ (x_ :: s_))) rfl (by first | rfl | (simp; done) | simp only [partMap, List.length_map, List.length_append, List.nil_append, Nat.zero_add, List.length_nil]) (by first | rfl | (simp; done) | simp only [partMap, List.map_append, List.nil_append, List.map_nil]) ?_; refine Zo (.row 5 2 (([] : List api_Job) ++ (x_ :: s_)).length) rfl rfl ?_; refine Zpb 3 rfl ?_; cases h; cases hG; exact ⟨rfl, rfl, trivial⟩
noncomputable def slices_Clone_api_Job_api_Job (s_ : List api_Job) : Option (List api_Job) := (chkO (decide (s_.length ≤ 1000000))).bind fun _ => some s_
theorem slices_Clone_api_Job_api_Job_fn {s_ r : List api_Job} (h : slices_Clone_api_Job_api_Job s_ = some r) : Fn Tryz.prog 54 [VF (List.map api_Job.enc s_)] (.ow 3 (List.map api_Job.enc r)) := by
  have e : s_ = r := cloneE h
  subst e
  cases s_ with
  | nil => exact Fn.slice0 (slices_Clone_api_Job_api_Job_a_fn rfl) fun a c => slices_Clone_api_Job_api_Job_b_fn (a_ := a) (c_ := c) rfl
  | cons x s =>
    refine slices_Clone_api_Job_api_Job_c_fn ?_; unfold slices_Clone_api_Job_api_Job at h; unfold slices_Clone_api_Job_api_Job_c
    simpa only [List.nil_append, Nat.zero_add] using h
theorem slices_SortFunc_api_Job_api_Job_fn {c : api_Job → api_Job → Option Int} {cF : FuncId} {cC : List AV} (cH : cC.all capd = true) (cP : ∀ (q0 q1 : api_Job) (z : Int), c q0 q1 = some z → Fn Tryz.prog cF ([.agg (api_Job.av q0), .agg (api_Job.av q1)] ++ cC) (VI z)) {l r : List api_Job} (h : sortF c l = some r) : FnW Tryz.prog 55 3 (List.map api_Job.enc l) [.fn cF cC] (.ow 3 (List.map api_Job.enc r)) :=
  sortF_fnw api_Job.enc (fun _ => rfl) (by decide) Tryz.call55 (fun α _ enc hk h1 cf hO g cb blk off cap d w eg hcmp hH hblk hsz => AnyQ.slices_SortFunc Tryz.sort55 3 Tryz.isAgg47 Tryz.sizeOf47 enc hk h1 cf hO g cb blk off cap d w eg hcmp hH hblk hsz) (fun p cap fv w => AnyF.slices_SortFunc_none Tryz.sort55 p cap fv w) cH cP h
noncomputable def cmp_isNaN_int (x_ : Int) : Option (Bool) :=
  some (x_ != x_)
theorem cmp_isNaN_int_fn {x_ : Int} {r : Bool} (h : cmp_isNaN_int x_ = some r) : Fn Tryz.prog 49 [VI x_] (VB r) := by
  refine Fn.of_AW (F := FnX Tryz.prog) (base := 0) (js := []) mixed tok noeqs (fun _ _ _ h => h) Tryz.call49 Tryz.func49 rfl Tryz.ntmps49 (by rw [Tryz.results49]) (by simp) ?_; have hG : (fun x => x = r) r := rfl; unfold cmp_isNaN_int at h; refine Zab 14 rfl ?_; cases h; cases hG; exact ⟨rfl, trivial⟩
noncomputable def cmp_Compare_int (x_ : Int) (y_ : Int) : Option (Int) :=
  (cmp_isNaN_int x_).bind fun y1 =>
  (cmp_isNaN_int y_).bind fun y2 =>
  (bif y1 then
    (bif y2 then
      some (0 : Int)
    else
      some (-1 : Int))
  else
    (bif y2 then
      some (1 : Int)
    else
      (bif (decide (x_ < y_)) then
        some (-1 : Int)
      else
        (bif (decide (y_ < x_)) then
          some (1 : Int)
        else
          some (0 : Int)))))
theorem cmp_Compare_int_fn {x_ : Int} {y_ : Int} {r : Int} (h : cmp_Compare_int x_ y_ = some r) : Fn Tryz.prog 29 [VI x_, VI y_] (VI r) := by
  refine Fn.of_AW (F := FnX Tryz.prog) (base := 0) (js := []) mixed tok noeqs (fun _ _ _ h => h) Tryz.call29 Tryz.func29 rfl Tryz.ntmps29 (by rw [Tryz.results29]) (by simp) ?_; have hG : (fun x => x = r) r := rfl; unfold cmp_Compare_int at h; refine Zap 8 rfl ?_; refine Y1 rfl ?_; refine bindK h fun y1 hy1 h => ?_; refine W.call rfl (cmp_isNaN_int_fn hy1) ?_; refine Zwp 7 rfl ?_; refine Y1 rfl ?_; refine bindK h fun y2 hy2 h => ?_; refine W.call rfl (cmp_isNaN_int_fn hy2) ?_; refine Zwc 10 rfl ?_; refine A.condB rfl h (fun _ h => ?_) (fun _ h => ?_)
  · refine Zcc 6 rfl ?_; refine A.condB rfl h (fun _ h => ?_) (fun _ h => ?_)
    · refine Zcb 8 rfl ?_; cases h; cases hG; exact ⟨rfl, trivial⟩
    · refine Zcb 9 rfl ?_; cases h; cases hG; exact ⟨rfl, trivial⟩
  · refine Zcc 8 rfl ?_; refine A.condB rfl h (fun _ h => ?_) (fun _ h => ?_)
    · refine Zcb 7 rfl ?_; cases h; cases hG; exact ⟨rfl, trivial⟩
    · refine Zcc 10 rfl ?_; refine A.condB rfl h (fun _ h => ?_) (fun _ h => ?_)
      · refine Zcb 7 rfl ?_; cases h; cases hG; exact ⟨rfl, trivial⟩
      · refine Zcc 10 rfl ?_; refine A.condB rfl h (fun _ h => ?_) (fun _ h => ?_)
        · refine Zcb 7 rfl ?_; cases h; cases hG; exact ⟨rfl, trivial⟩
        · refine Zcb 8 rfl ?_; cases h; cases hG; exact ⟨rfl, trivial⟩
noncomputable def cmp_Or_int_L1 (vals_ : (List Int)) (s3 : Int) : Option ((Int) ⊕ ((Unit) ⊕ (Int))) :=
  (bif (decide (s3 < (vals_.length : Int))) then
    (getI vals_ s3).bind fun x12 =>
    (bif (x12 != (0 : Int)) then
      some (.inr (.inr x12))
    else
      some (.inl (IntKind.i64.wrap (s3 + (1 : Int)))))
  else
    some (.inr (.inl ())))
noncomputable def cmp_Or_int (vals_ : (List Int)) : Option (Int) :=
  (seqF (A := Unit) (
    loopF (cmp_Or_int_L1 vals_) (0 : Int))
  fun s2 =>
    some (0 : Int))
theorem cmp_Or_int_fn {vals_ : (List Int)} {r : Int} (h : cmp_Or_int vals_ = some r) : Fn Tryz.prog 28 [VF (List.map (encI .i64) vals_)] (VI r) := by
  refine Fn.of_AW (F := FnX Tryz.prog) (base := 0) (js := [8]) mixed tok noeqs (fun _ _ _ h => h) Tryz.call28 Tryz.func28 rfl Tryz.ntmps28 (by rw [Tryz.results28]) (by simp) ?_; have hG : (fun x => x = r) r := rfl; unfold cmp_Or_int at h; refine Zac 10 rfl ?_; refine A.join (fun (s2 : Unit) => [(3, VI 0)]) (fun s2 => []) _ h hG rfl ?_ ?_
  · intro J f h hG; refine Zap 3 rfl ?_; refine Y1 rfl ?_; refine W.len rfl ?_; refine Zpc 4 rfl ?_; refine A.loop (fun (s3 : Int) => [(3, VI 0), (6, VF (List.map (encI .i64) vals_)), (7, VI (vals_.length : Int)), (8, VI s3)]) (fun s3 => []) _ h hG (Zf [] [] rfl rfl (Ze rfl rfl (Ze rfl rfl (Ze rfl rfl (Ze rfl rfl trivial)))) trivial) ?_; intro J s3 f h hG; unfold cmp_Or_int_L1 at h; refine Zac 6 rfl ?_; refine A.condB rfl h (fun _ h => ?_) (fun _ h => ?_)
    · refine Zcp 6 rfl ?_; refine Y1 rfl ?_; refine bindK h fun x12 hx12 h => ?_; refine W.chk rfl (elemB hx12) ?_; refine W.elem rfl (elemG hx12) ?_; refine W.chk rfl rfl ?_; refine W.det (.fp [.v (.int .i64 x12)]) _ rfl ?_; refine Zpc 11 rfl ?_; refine A.condB rfl h (fun _ h => ?_) (fun _ h => ?_)
      · refine Zcb 9 rfl ?_; refine headK.r ?_; refine Zob 1 rfl ?_; refine headK.r ?_; cases h; cases hG; exact ⟨rfl, trivial⟩
      · refine Zcb 7 rfl ?_; cases h; exact Zh hG [] [] rfl rfl (Ze rfl rfl (Ze rfl rfl (Ze rfl rfl (Ze rfl rfl trivial)))) trivial
    · refine Zcb 2 rfl ?_; refine headK.e ?_; refine Zob 1 rfl ?_; cases h; exact Zh hG [] [] rfl rfl (Ze rfl rfl trivial) trivial
  · intro s2 r2 h hG; refine Zcb 7 rfl ?_; cases h; cases hG; exact ⟨rfl, trivial⟩
noncomputable def admit_demands_1 (a_ : api_Job) (b_ : api_Job) : Option (Int) :=
  (cmp_Compare_int a_.Due b_.Due).bind fun y1 =>
  (cmp_Compare_int a_.Id b_.Id).bind fun y2 =>
  (cmp_Or_int [y1, y2]).bind fun y3 =>
  some y3
theorem admit_demands_1_fn {a_ : api_Job} {b_ : api_Job} {r : Int} (h : admit_demands_1 a_ b_ = some r) : Fn Tryz.prog 56 [.agg (api_Job.av a_), .agg (api_Job.av b_)] (VI r) := by
  refine Fn.of_AW (F := FnX Tryz.prog) (base := 0) (js := []) mixed tok noeqs (fun _ _ _ h => h) Tryz.call56 Tryz.func56 rfl Tryz.ntmps56 (by rw [Tryz.results56]) (by simp) ?_; have hG : (fun x => x = r) r := rfl; unfold admit_demands_1 at h; refine Zap 2 rfl ?_; refine Zm (.lp 2 1 0) (Mem.add _ 2 (.box (api_Job.av a_))) rfl rfl ?_; refine Zm (.lp 3 1 0) (Mem.add _ 3 (.box (api_Job.av b_))) rfl rfl ?_; refine Zpc 4 rfl ?_; refine A.regionD (by kernel_rfl) ?_; refine Zpp 4 rfl ?_; refine Y1 rfl ?_; refine bindK h fun y1 hy1 h => ?_; refine W.call rfl (cmp_Compare_int_fn hy1) ?_; refine Zwp 5 rfl ?_; refine Y1 rfl ?_; refine bindK h fun y2 hy2 h => ?_; refine W.call rfl (cmp_Compare_int_fn hy2) ?_; refine Zwp 1 rfl ?_; refine Zm (.row 15 1 2) (Mem.add _ 15 (.rows 1 (List.map (encI .i64) [y1, y2]) false)) rfl rfl ?_; refine Y1 rfl ?_; refine bindK h fun y3 hy3 h => ?_; refine W.call rfl (cmp_Or_int_fn hy3) ?_; refine Zwb 5 rfl ?_; cases h; cases hG; exact ⟨rfl, trivial⟩
noncomputable def supply_places (p_ : api_Profile) (steps_ : Int) : Option (Int × Int) :=
  (bif (decide ((0 : Int) < steps_)) then
    (chkO (steps_ != 0)).bind fun _ =>
    (bif (decide ((IntKind.i64.wrap (Int.tdiv (4503599627370496 : Int) steps_)) < p_.Rate)) then
      some ((0 : Int), (3 : Int))
    else
      some ((IntKind.i64.wrap (p_.Rate * steps_)), (0 : Int)))
  else
    some ((IntKind.i64.wrap (p_.Rate * steps_)), (0 : Int)))
theorem supply_places_fn {p_ : api_Profile} {steps_ : Int} {r : Int × Int} (h : supply_places p_ steps_ = some r) : Fn Tryz.prog 111 [.agg (api_Profile.av p_), VI steps_] (.tup [VI r.1, VI r.2]) := by
  refine Fn.of_AW (F := FnX Tryz.prog) (base := 0) (js := []) mixed tok noeqs (fun _ _ _ h => h) Tryz.call111 Tryz.func111 rfl Tryz.ntmps111 (by rw [Tryz.results111]) (by simp) ?_; have hG : (fun x => x = r) r := rfl; unfold supply_places at h; refine Zap 2 rfl ?_; refine Zm (.lp 2 1 0) (Mem.add _ 2 (.box (api_Profile.av p_))) rfl rfl ?_; refine Zpc 6 rfl ?_; refine A.regionD (by kernel_rfl) ?_; refine Zpp 3 rfl ?_; refine YT rfl rfl rfl h (fun _ h => ?_) (fun _ h => ?_)
  · refine Zwp 3 rfl ?_; refine Y2 rfl rfl rfl ?_; refine chkK h fun g4 h => ?_; refine W.chk rfl (by simpa using g4) ?_; refine Zwc 5 rfl ?_; refine A.condB rfl h (fun _ h => ?_) (fun _ h => ?_)
    · refine Zcb 8 rfl ?_; cases h; cases hG; exact ⟨rfl, rfl, trivial⟩
    · refine Zcb 13 rfl ?_; cases h; cases hG; exact ⟨rfl, rfl, trivial⟩
  · refine Zpb 21 rfl ?_; cases h; cases hG; exact ⟨rfl, rfl, trivial⟩
noncomputable def supply_Least (p_ : api_Profile) (t_ : Int) : Option (Int × Int) :=
  (profile_Check p_).bind fun y4 =>
  (bif (y4 != (0 : Int)) then
    some ((0 : Int), (1 : Int))
  else
    (bif (decide (t_ < (0 : Int))) then
      some ((0 : Int), (1 : Int))
    else
      (bif (decide ((1073741824 : Int) < t_)) then
        some ((0 : Int), (1 : Int))
      else
        (bif (decide ((0 : Int) < p_.Down)) then
          (chkO (p_.Window != 0)).bind fun _ =>
          (supply_places p_ (IntKind.i64.wrap (t_ - (IntKind.i64.wrap ((IntKind.i64.wrap ((IntKind.i64.wrap (Int.tdiv t_ p_.Window)) * p_.Down)) + (if p_.Down < (Int.tmod t_ p_.Window) then p_.Down else (Int.tmod t_ p_.Window))))))).bind fun y9 =>
          some (y9.1, y9.2)
        else
          (supply_places p_ (IntKind.i64.wrap (t_ - (0 : Int)))).bind fun y10 =>
          some (y10.1, y10.2)))))
theorem supply_Least_fn {p_ : api_Profile} {t_ : Int} {r : Int × Int} (h : supply_Least p_ t_ = some r) : Fn Tryz.prog 86 [.agg (api_Profile.av p_), VI t_] (.tup [VI r.1, VI r.2]) := by
  refine Fn.of_AW (F := FnX Tryz.prog) (base := 0) (js := []) mixed tok noeqs (fun _ _ _ h => h) Tryz.call86 Tryz.func86 rfl Tryz.ntmps86 (by rw [Tryz.results86]) (by simp) ?_; have hG : (fun x => x = r) r := rfl; unfold supply_Least at h; refine Zap 2 rfl ?_; refine Zm (.lp 2 1 0) (Mem.add _ 2 (.box (api_Profile.av p_))) rfl rfl ?_; refine Zpp 7 rfl ?_; refine Zo (.agg (api_Profile.av p_)) rfl rfl ?_; refine Y1 rfl ?_; refine bindK h fun y4 hy4 h => ?_; refine W.call rfl (profile_Check_fn hy4) ?_; refine Zwp 3 rfl ?_; refine YF rfl rfl rfl h (fun _ h => ?_) (fun _ h => ?_)
  · refine Zpb 17 rfl ?_; cases h; cases hG; exact ⟨rfl, rfl, trivial⟩
  · refine Zwp 4 rfl ?_; refine YF rfl rfl rfl h (fun _ h => ?_) (fun _ h => ?_)
    · refine Zpb 13 rfl ?_; cases h; cases hG; exact ⟨rfl, rfl, trivial⟩
    · refine Zwc 5 rfl ?_; refine A.condB rfl h (fun _ h => ?_) (fun _ h => ?_)
      · refine Zcb 8 rfl ?_; cases h; cases hG; exact ⟨rfl, rfl, trivial⟩
      · refine Zcc 15 rfl ?_; refine A.condB rfl h (fun _ h => ?_) (fun _ h => ?_)
        · refine A.regionD (by kernel_rfl) ?_; refine Zpp 3 rfl ?_; refine Y1 rfl ?_; refine chkK h fun g7 h => ?_; refine W.chk rfl (by simpa using g7) ?_; refine Zwp 7 rfl ?_; refine Y1 rfl ?_; refine W.chk rfl (by simpa using g7) ?_; refine Zwp 10 rfl ?_; refine Zo (.agg (api_Profile.av p_)) rfl rfl ?_; refine Zpp 3 rfl ?_; refine Y1 rfl ?_; refine bindK h fun y9 hy9 h => ?_; refine W.call rfl (supply_places_fn hy9) ?_; refine W.det (.tup [VI y9.1, VI y9.2]) _ rfl ?_; refine Zpb 7 rfl ?_; cases h; cases hG; exact ⟨rfl, rfl, trivial⟩
        · refine Zcp 4 rfl ?_; refine Zo (.agg (api_Profile.av p_)) rfl rfl ?_; refine Zpp 3 rfl ?_; refine Y1 rfl ?_; refine bindK h fun y10 hy10 h => ?_; refine W.call rfl (supply_places_fn hy10) ?_; refine W.det (.tup [VI y10.1, VI y10.2]) _ rfl ?_; refine Zpb 7 rfl ?_; cases h; cases hG; exact ⟨rfl, rfl, trivial⟩
noncomputable def admit_gives (p_ : api_Profile) (now_ : Int) (due_ : Int) : Option (Int) :=
  (bif (decide (due_ < now_)) then
    some (0 : Int)
  else
    (supply_Least p_ (IntKind.i64.wrap (due_ - now_))).bind fun y1 =>
    (bif (y1.2 == (3 : Int)) then
      some (4503599627370496 : Int)
    else
      some y1.1))
theorem admit_gives_fn {p_ : api_Profile} {now_ : Int} {due_ : Int} {r : Int} (h : admit_gives p_ now_ due_ = some r) : Fn Tryz.prog 57 [.agg (api_Profile.av p_), VI now_, VI due_] (VI r) := by
  refine Fn.of_AW (F := FnX Tryz.prog) (base := 0) (js := []) mixed tok noeqs (fun _ _ _ h => h) Tryz.call57 Tryz.func57 rfl Tryz.ntmps57 (by rw [Tryz.results57]) (by simp) ?_; have hG : (fun x => x = r) r := rfl; unfold admit_gives at h; refine Zap 2 rfl ?_; refine Zm (.lp 3 1 0) (Mem.add _ 3 (.box (api_Profile.av p_))) rfl rfl ?_; refine Zpc 11 rfl ?_; refine A.condB rfl h (fun _ h => ?_) (fun _ h => ?_)
  · refine Zcb 7 rfl ?_; cases h; cases hG; exact ⟨rfl, trivial⟩
  · refine Zcp 4 rfl ?_; refine Zo (.agg (api_Profile.av p_)) rfl rfl ?_; refine Zpp 3 rfl ?_; refine Y1 rfl ?_; refine bindK h fun y1 hy1 h => ?_; refine W.call rfl (supply_Least_fn hy1) ?_; refine W.det (.tup [VI y1.1, VI y1.2]) _ rfl ?_; refine Zo (.tup [VI y1.1, VI y1.2]) rfl rfl ?_; refine Zpc 13 rfl ?_; refine A.condB rfl h (fun _ h => ?_) (fun _ h => ?_)
    · refine Zcb 7 rfl ?_; cases h; cases hG; exact ⟨rfl, trivial⟩
    · refine Zcb 9 rfl ?_; cases h; cases hG; exact ⟨rfl, trivial⟩
end Go.Proofs.YtbijnfgjcbfpmaaGreat
