/-
  Plain programs of functions, and that the functions do what they say. Printed by wip/tools/gen.py.
-/
import Derived.Test.YtpikahfgidgdbaaTy
import Derived.Test.YtpikahfgidgdbaaEvS
import Derived.Test.YtpikahfgidgdbaaEvZ
namespace Go.Proofs.Ytpikahfgidgdbaa
open Go.RowKit
attribute [local irreducible] IntKind.wrap AW runL Step.wp
set_option linter.unusedVariables false
set_option maxHeartbeats 4000000
set_option maxRecDepth 100000
noncomputable def ref16_Ints_L1 (a_ : (List Int)) (b_ : (List Int)) (s3 : Int) : Option ((Int) ⊕ ((Unit) ⊕ (Bool))) :=
  (bif (decide (s3 < (a_.length : Int))) then
    (getI a_ s3).bind fun x23 =>
    (getI b_ s3).bind fun x24 =>
    (bif (x23 != x24) then
      some (.inr (.inr false))
    else
      some (.inl (IntKind.i64.wrap (s3 + (1 : Int)))))
  else
    some (.inr (.inl ())))
noncomputable def ref16_Ints (a_ : (List Int)) (b_ : (List Int)) : Option (Bool) :=
  (bif ((a_.length : Int) != (b_.length : Int)) then
    some false
  else
    (seqF (A := Unit) (
      loopF (ref16_Ints_L1 a_ b_) (0 : Int))
    fun s2 =>
      some true))
theorem ref16_Ints_fn {dr : Prop} {a_ : (List Int)} {b_ : (List Int)} {r : Bool} (h : ref16_Ints a_ b_ = some r) : Fn dr Try.prog 15 [VF (List.map (encI .i64) a_), VF (List.map (encI .i64) b_)] (VB r) := by
  refine Fn.of_AW (dr := dr) (F := FnX dr Try.prog) (base := 0) (js := [8]) mixed tok noeqs (fun _ _ _ h => h) Try.call15 Try.func15 rfl Try.ntmps15 (by rw [Try.results15]) (by simp) ?_; have hG : (fun x => x = r) r := rfl; unfold ref16_Ints at h; refine Zap 9 rfl ?_; refine Y1 rfl ?_; refine W.len rfl ?_; refine Zpp 1 rfl ?_; refine Y1 rfl ?_; refine W.len rfl ?_; refine Zpc 3 rfl ?_; refine A.condB rfl h (fun _ h => ?_) (fun _ h => ?_)
  · refine Zcb 7 rfl ?_; cases h; cases hG; exact ⟨rfl, trivial⟩
  · refine Zcc 2 rfl ?_; refine A.join (fun (s2 : Unit) => []) (fun s2 => []) _ h hG rfl ?_ ?_
    · intro J f h hG; refine Zac 6 rfl ?_; refine A.loop (fun (s3 : Int) => [(0, VF (List.map (encI .i64) a_)), (1, VF (List.map (encI .i64) b_)), (5, VI s3)]) (fun s3 => []) _ h hG (Zf [] [] rfl rfl (Ze rfl rfl (Ze rfl rfl (Ze rfl rfl trivial))) trivial) ?_; intro J s3 f h hG; unfold ref16_Ints_L1 at h; refine Zap 5 rfl ?_; refine Y1 rfl ?_; refine W.len rfl ?_; refine Zpc 3 rfl ?_; refine A.condB rfl h (fun _ h => ?_) (fun _ h => ?_)
      · refine Zcc 5 rfl ?_; refine A.regionD (by kernel_rfl) ?_; refine Zpp 2 rfl ?_; refine Y1 rfl ?_; refine bindK h fun x23 hx23 h => ?_; refine W.chk rfl (elemB hx23) ?_; refine W.elem rfl (elemG hx23) ?_; refine W.chk rfl rfl ?_; refine W.det (.fp [.v (.int .i64 x23)]) _ rfl ?_; refine Zpp 3 rfl ?_; refine Y1 rfl ?_; refine bindK h fun x24 hx24 h => ?_; refine W.chk rfl (elemB hx24) ?_; refine W.elem rfl (elemG hx24) ?_; refine W.chk rfl rfl ?_; refine W.det (.fp [.v (.int .i64 x24)]) _ rfl ?_; refine Zpc 4 rfl ?_; refine A.condB rfl h (fun _ h => ?_) (fun _ h => ?_)
        · refine Zcb 8 rfl ?_; refine headK.r ?_; refine Zob 1 rfl ?_; refine headK.r ?_; cases h; cases hG; exact ⟨rfl, trivial⟩
        · refine Zcb 8 rfl ?_; cases h; exact Zh hG [] [] rfl rfl (Ze rfl rfl (Ze rfl rfl (Ze rfl rfl trivial))) trivial
      · refine Zcb 2 rfl ?_; refine headK.e ?_; refine Zob 1 rfl ?_; cases h; exact Zh hG [] [] rfl rfl trivial trivial
    · intro s2 r2 h hG; refine Zcb 6 rfl ?_; cases h; cases hG; exact ⟨rfl, trivial⟩
structure Arr2_Int where
  a0 : Int
  a1 : Int
def Arr2_Int.enc (x : Arr2_Int) : List D := [.v (.int .i64 x.a0), .v (.int .i64 x.a1)]
abbrev Arr2_Int.av (x : Arr2_Int) : List AV := [VI x.a0, VI x.a1]
structure api_Msg where
  Id : Int
  Author : Int
  Group : Int
  Parent : Int
  Quote : Int
  Who : Int
  Text : ByteArray
  Files : (List Int)
  Edits : Int
  Reacts : (List Arr2_Int)
  Gone : Bool
def api_Msg.enc (x : api_Msg) : List D := [.v (.int .i64 x.Id), .v (.int .i64 x.Author), .v (.int .i64 x.Group), .v (.int .i64 x.Parent), .v (.int .i64 x.Quote), .v (.int .i64 x.Who), .v (.string x.Text), .fz (List.map (encI .i64) x.Files), .v (.int .i64 x.Edits), .fz (List.map Arr2_Int.enc x.Reacts), .v (.bool x.Gone)]
abbrev api_Msg.av (x : api_Msg) : List AV := [VI x.Id, VI x.Author, VI x.Group, VI x.Parent, VI x.Quote, VI x.Who, VS x.Text, VF (List.map (encI .i64) x.Files), VI x.Edits, VF (List.map Arr2_Int.enc x.Reacts), VB x.Gone]
noncomputable def ref16_Same_L1 (a_ : api_Msg) (b_ : api_Msg) (s3 : Int) : Option ((Int) ⊕ ((Unit) ⊕ (Bool))) :=
  (bif (decide (s3 < (a_.Reacts.length : Int))) then
    (getI a_.Reacts s3).bind fun x27 =>
    (getI b_.Reacts s3).bind fun x28 =>
    (bif (!((x27.a0 == x28.a0) && ((x27.a1 == x28.a1) && true))) then
      some (.inr (.inr false))
    else
      some (.inl (IntKind.i64.wrap (s3 + (1 : Int)))))
  else
    some (.inr (.inl ())))
noncomputable def ref16_Same (a_ : api_Msg) (b_ : api_Msg) : Option (Bool) :=
  (bif (a_.Id != b_.Id) then
    some false
  else
    (bif (a_.Author != b_.Author) then
      some false
    else
      (bif (a_.Group != b_.Group) then
        some false
      else
        (bif (a_.Parent != b_.Parent) then
          some false
        else
          (bif (a_.Quote != b_.Quote) then
            some false
          else
            (bif (a_.Who != b_.Who) then
              some false
            else
              (bif (!(a_.Text.toList == b_.Text.toList)) then
                some false
              else
                (bif (a_.Edits != b_.Edits) then
                  some false
                else
                  (bif (!(a_.Gone == b_.Gone)) then
                    some false
                  else
                    (ref16_Ints a_.Files b_.Files).bind fun y4 =>
                    (bif (!y4) then
                      some false
                    else
                      (bif ((a_.Reacts.length : Int) != (b_.Reacts.length : Int)) then
                        some false
                      else
                        (seqF (A := Unit) (
                          loopF (ref16_Same_L1 a_ b_) (0 : Int))
                        fun s2 =>
                          some true))))))))))))
theorem ref16_Same_fn {dr : Prop} {a_ : api_Msg} {b_ : api_Msg} {r : Bool} (h : ref16_Same a_ b_ = some r) : Fn dr Try.prog 22 [.agg (api_Msg.av a_), .agg (api_Msg.av b_)] (VB r) := by
  refine Fn.of_AW (dr := dr) (F := FnX dr Try.prog) (base := 0) (js := [8]) mixed tok noeqs (fun _ _ _ h => h) Try.call22 Try.func22 rfl Try.ntmps22 (by rw [Try.results22]) (by simp) ?_; have hG : (fun x => x = r) r := rfl; unfold ref16_Same at h; refine Zap 2 rfl ?_; refine Zm (.lp 2 1 0) (Mem.add _ 2 (.box (api_Msg.av a_))) rfl rfl ?_; refine Zm (.lp 3 1 0) (Mem.add _ 3 (.box (api_Msg.av b_))) rfl rfl ?_; refine Zpp 12 rfl ?_; refine YF rfl rfl rfl h (fun _ h => ?_) (fun _ h => ?_)
  · refine Zpb 81 rfl ?_; cases h; cases hG; exact ⟨rfl, trivial⟩
  · refine Zwp 7 rfl ?_; refine YF rfl rfl rfl h (fun _ h => ?_) (fun _ h => ?_)
    · refine Zpb 74 rfl ?_; cases h; cases hG; exact ⟨rfl, trivial⟩
    · refine Zwp 7 rfl ?_; refine YF rfl rfl rfl h (fun _ h => ?_) (fun _ h => ?_)
      · refine Zpb 67 rfl ?_; cases h; cases hG; exact ⟨rfl, trivial⟩
      · refine Zwp 7 rfl ?_; refine YF rfl rfl rfl h (fun _ h => ?_) (fun _ h => ?_)
        · refine Zpb 60 rfl ?_; cases h; cases hG; exact ⟨rfl, trivial⟩
        · refine Zwp 7 rfl ?_; refine YF rfl rfl rfl h (fun _ h => ?_) (fun _ h => ?_)
          · refine Zpb 53 rfl ?_; cases h; cases hG; exact ⟨rfl, trivial⟩
          · refine Zwp 7 rfl ?_; refine YF rfl rfl rfl h (fun _ h => ?_) (fun _ h => ?_)
            · refine Zpb 46 rfl ?_; cases h; cases hG; exact ⟨rfl, trivial⟩
            · refine Zwp 7 rfl ?_; refine YF rfl rfl rfl h (fun _ h => ?_) (fun _ h => ?_)
              · refine Zpb 39 rfl ?_; cases h; cases hG; exact ⟨rfl, trivial⟩
              · refine Zwp 7 rfl ?_; refine YF rfl rfl rfl h (fun _ h => ?_) (fun _ h => ?_)
                · refine Zpb 32 rfl ?_; cases h; cases hG; exact ⟨rfl, trivial⟩
                · refine Zwp 7 rfl ?_; refine YF rfl rfl rfl h (fun _ h => ?_) (fun _ h => ?_)
                  · refine Zpb 25 rfl ?_; cases h; cases hG; exact ⟨rfl, trivial⟩
                  · refine Zwp 4 rfl ?_; refine Y2 rfl rfl rfl ?_; refine bindK h fun y4 hy4 h => ?_; refine W.call rfl (ref16_Ints_fn hy4) ?_; refine Zwp 4 rfl ?_; refine YF rfl rfl rfl h (fun _ h => ?_) (fun _ h => ?_)
                    · refine Zpb 17 rfl ?_; cases h; cases hG; exact ⟨rfl, trivial⟩
                    · refine Zwp 2 rfl ?_; refine Y2 rfl rfl rfl ?_; refine W.len rfl ?_; refine Zpp 2 rfl ?_; refine Y2 rfl rfl rfl ?_; refine W.len rfl ?_; refine Zpc 4 rfl ?_; refine A.condB rfl h (fun _ h => ?_) (fun _ h => ?_)
                      · refine Zcb 7 rfl ?_; cases h; cases hG; exact ⟨rfl, trivial⟩
                      · refine Zcc 2 rfl ?_; refine A.join (fun (s2 : Unit) => []) (fun s2 => []) _ h hG rfl ?_ ?_
                        · intro J f h hG; refine Zac 6 rfl ?_; refine A.loop (fun (s3 : Int) => [(2, .lp 900000 1 0), (3, .lp 900001 1 0), (5, VI s3)]) (fun s3 => [(900000, .box (api_Msg.av a_)), (900001, .box (api_Msg.av b_))]) _ h hG (Zf [] [(900000, (2, 1)), (900001, (3, 1))] rfl rfl (Ze rfl rfl (Ze rfl rfl (Ze rfl rfl trivial))) (Zc rfl rfl (Zc rfl rfl trivial))) ?_; intro J s3 f h hG; unfold ref16_Same_L1 at h; refine Zap 6 rfl ?_; refine Y1 rfl ?_; refine W.len rfl ?_; refine Zpc 3 rfl ?_; refine A.condB rfl h (fun _ h => ?_) (fun _ h => ?_)
                          · refine Zcc 5 rfl ?_; refine A.regionD (by kernel_rfl) ?_; refine Zpp 3 rfl ?_; refine Y1 rfl ?_; refine bindK h fun x27 hx27 h => ?_; refine W.chk rfl (elemB hx27) ?_; refine W.elem rfl (elemG hx27) ?_; refine W.chk rfl rfl ?_; refine W.det (.fp [.v (.int .i64 x27.a0), .v (.int .i64 x27.a1)]) _ rfl ?_; refine Zo (.agg (Arr2_Int.av x27)) rfl rfl ?_; refine Zpp 3 rfl ?_; refine Y1 rfl ?_; refine bindK h fun x28 hx28 h => ?_; refine W.chk rfl (elemB hx28) ?_; refine W.elem rfl (elemG hx28) ?_; refine W.chk rfl rfl ?_; refine W.det (.fp [.v (.int .i64 x28.a0), .v (.int .i64 x28.a1)]) _ rfl ?_; refine Zo (.agg (Arr2_Int.av x28)) rfl rfl ?_; refine Zpc 3 rfl ?_; refine A.condB rfl h (fun _ h => ?_) (fun _ h => ?_)
                            · refine Zcb 8 rfl ?_; refine headK.r ?_; refine Zob 1 rfl ?_; refine headK.r ?_; cases h; cases hG; exact ⟨rfl, trivial⟩
                            · refine Zcb 8 rfl ?_; cases h; exact Zh hG [] [(900000, (900000, 1)), (900001, (900001, 1))] rfl rfl (Ze rfl rfl (Ze rfl rfl (Ze rfl rfl trivial))) (Zc rfl rfl (Zc rfl rfl trivial))
                          · refine Zcb 2 rfl ?_; refine headK.e ?_; refine Zob 1 rfl ?_; cases h; exact Zh hG [] [] rfl rfl trivial trivial
                        · intro s2 r2 h hG; refine Zcb 6 rfl ?_; cases h; cases hG; exact ⟨rfl, trivial⟩
noncomputable def cmp_isNaN_int (x_ : Int) : Option (Bool) :=
  some (x_ != x_)
theorem cmp_isNaN_int_fn {dr : Prop} {x_ : Int} {r : Bool} (h : cmp_isNaN_int x_ = some r) : Fn dr Try.prog 45 [VI x_] (VB r) := by
  refine Fn.of_AW (dr := dr) (F := FnX dr Try.prog) (base := 0) (js := []) mixed tok noeqs (fun _ _ _ h => h) Try.call45 Try.func45 rfl Try.ntmps45 (by rw [Try.results45]) (by simp) ?_; have hG : (fun x => x = r) r := rfl; unfold cmp_isNaN_int at h; refine Zab 14 rfl ?_; cases h; cases hG; exact ⟨rfl, trivial⟩
noncomputable def cmp_Compare_int (x_ : Int) (y_ : Int) : Option (Int) :=
  (cmp_isNaN_int x_).bind fun y1 =>
  (cmp_isNaN_int y_).bind fun y2 =>
  (bif y1 then
    (bif y2 then
      some (0 : Int)
    else
      some (-1 : Int))
  else
    (bif y2 then
      some (1 : Int)
    else
      (bif (decide (x_ < y_)) then
        some (-1 : Int)
      else
        (bif (decide (y_ < x_)) then
          some (1 : Int)
        else
          some (0 : Int)))))
theorem cmp_Compare_int_fn {dr : Prop} {x_ : Int} {y_ : Int} {r : Int} (h : cmp_Compare_int x_ y_ = some r) : Fn dr Try.prog 34 [VI x_, VI y_] (VI r) := by
  refine Fn.of_AW (dr := dr) (F := FnX dr Try.prog) (base := 0) (js := []) mixed tok noeqs (fun _ _ _ h => h) Try.call34 Try.func34 rfl Try.ntmps34 (by rw [Try.results34]) (by simp) ?_; have hG : (fun x => x = r) r := rfl; unfold cmp_Compare_int at h; refine Zap 8 rfl ?_; refine Y1 rfl ?_; refine bindK h fun y1 hy1 h => ?_; refine W.call rfl (cmp_isNaN_int_fn hy1) ?_; refine Zwp 7 rfl ?_; refine Y1 rfl ?_; refine bindK h fun y2 hy2 h => ?_; refine W.call rfl (cmp_isNaN_int_fn hy2) ?_; refine Zwc 10 rfl ?_; refine A.condB rfl h (fun _ h => ?_) (fun _ h => ?_)
  · refine Zcc 6 rfl ?_; refine A.condB rfl h (fun _ h => ?_) (fun _ h => ?_)
    · refine Zcb 8 rfl ?_; cases h; cases hG; exact ⟨rfl, trivial⟩
    · refine Zcb 9 rfl ?_; cases h; cases hG; exact ⟨rfl, trivial⟩
  · refine Zcc 8 rfl ?_; refine A.condB rfl h (fun _ h => ?_) (fun _ h => ?_)
    · refine Zcb 7 rfl ?_; cases h; cases hG; exact ⟨rfl, trivial⟩
    · refine Zcc 10 rfl ?_; refine A.condB rfl h (fun _ h => ?_) (fun _ h => ?_)
      · refine Zcb 7 rfl ?_; cases h; cases hG; exact ⟨rfl, trivial⟩
      · refine Zcc 10 rfl ?_; refine A.condB rfl h (fun _ h => ?_) (fun _ h => ?_)
        · refine Zcb 7 rfl ?_; cases h; cases hG; exact ⟨rfl, trivial⟩
        · refine Zcb 8 rfl ?_; cases h; cases hG; exact ⟨rfl, trivial⟩
noncomputable def cmp_Or_int_L1 (vals_ : (List Int)) (s3 : Int) : Option ((Int) ⊕ ((Unit) ⊕ (Int))) :=
  (bif (decide (s3 < (vals_.length : Int))) then
    (getI vals_ s3).bind fun x12 =>
    (bif (x12 != (0 : Int)) then
      some (.inr (.inr x12))
    else
      some (.inl (IntKind.i64.wrap (s3 + (1 : Int)))))
  else
    some (.inr (.inl ())))
noncomputable def cmp_Or_int (vals_ : (List Int)) : Option (Int) :=
  (seqF (A := Unit) (
    loopF (cmp_Or_int_L1 vals_) (0 : Int))
  fun s2 =>
    some (0 : Int))
theorem cmp_Or_int_fn {dr : Prop} {vals_ : (List Int)} {r : Int} (h : cmp_Or_int vals_ = some r) : Fn dr Try.prog 33 [VF (List.map (encI .i64) vals_)] (VI r) := by
  refine Fn.of_AW (dr := dr) (F := FnX dr Try.prog) (base := 0) (js := [8]) mixed tok noeqs (fun _ _ _ h => h) Try.call33 Try.func33 rfl Try.ntmps33 (by rw [Try.results33]) (by simp) ?_; have hG : (fun x => x = r) r := rfl; unfold cmp_Or_int at h; refine Zac 10 rfl ?_; refine A.join (fun (s2 : Unit) => [(3, VI 0)]) (fun s2 => []) _ h hG rfl ?_ ?_
  · intro J f h hG; refine Zap 3 rfl ?_; refine Y1 rfl ?_; refine W.len rfl ?_; refine Zpc 4 rfl ?_; refine A.loop (fun (s3 : Int) => [(3, VI 0), (6, VF (List.map (encI .i64) vals_)), (7, VI (vals_.length : Int)), (8, VI s3)]) (fun s3 => []) _ h hG (Zf [] [] rfl rfl (Ze rfl rfl (Ze rfl rfl (Ze rfl rfl (Ze rfl rfl trivial)))) trivial) ?_; intro J s3 f h hG; unfold cmp_Or_int_L1 at h; refine Zac 6 rfl ?_; refine A.condB rfl h (fun _ h => ?_) (fun _ h => ?_)
    · refine Zcp 6 rfl ?_; refine Y1 rfl ?_; refine bindK h fun x12 hx12 h => ?_; refine W.chk rfl (elemB hx12) ?_; refine W.elem rfl (elemG hx12) ?_; refine W.chk rfl rfl ?_; refine W.det (.fp [.v (.int .i64 x12)]) _ rfl ?_; refine Zpc 11 rfl ?_; refine A.condB rfl h (fun _ h => ?_) (fun _ h => ?_)
      · refine Zcb 9 rfl ?_; refine headK.r ?_; refine Zob 1 rfl ?_; refine headK.r ?_; cases h; cases hG; exact ⟨rfl, trivial⟩
      · refine Zcb 7 rfl ?_; cases h; exact Zh hG [] [] rfl rfl (Ze rfl rfl (Ze rfl rfl (Ze rfl rfl (Ze rfl rfl trivial)))) trivial
    · refine Zcb 2 rfl ?_; refine headK.e ?_; refine Zob 1 rfl ?_; cases h; exact Zh hG [] [] rfl rfl (Ze rfl rfl trivial) trivial
  · intro s2 r2 h hG; refine Zcb 7 rfl ?_; cases h; cases hG; exact ⟨rfl, trivial⟩
noncomputable def view_View_1 (a_ : Arr2_Int) (b_ : Arr2_Int) : Option (Int) :=
  (cmp_Compare_int a_.a0 b_.a0).bind fun y1 =>
  (cmp_Compare_int a_.a1 b_.a1).bind fun y2 =>
  (cmp_Or_int [y1, y2]).bind fun y3 =>
  some y3
theorem view_View_1_fn {dr : Prop} {a_ : Arr2_Int} {b_ : Arr2_Int} {r : Int} (h : view_View_1 a_ b_ = some r) : Fn dr Try.prog 32 [.agg (Arr2_Int.av a_), .agg (Arr2_Int.av b_)] (VI r) := by
  refine Fn.of_AW (dr := dr) (F := FnX dr Try.prog) (base := 0) (js := []) mixed tok noeqs (fun _ _ _ h => h) Try.call32 Try.func32 rfl Try.ntmps32 (by rw [Try.results32]) (by simp) ?_; have hG : (fun x => x = r) r := rfl; unfold view_View_1 at h; refine Zap 2 rfl ?_; refine Zm (.lp 2 1 0) (Mem.add _ 2 (.box (Arr2_Int.av a_))) rfl rfl ?_; refine Zm (.lp 3 1 0) (Mem.add _ 3 (.box (Arr2_Int.av b_))) rfl rfl ?_; refine Zpc 4 rfl ?_; refine A.regionD (by kernel_rfl) ?_; refine Y1 rfl ?_; refine W.chk rfl (by decide) ?_; refine W.det (.lp 2 1 0) _ rfl ?_; refine Zpp 1 rfl ?_; refine Y1 rfl ?_; refine W.chk rfl (by decide) ?_; refine W.det (.lp 3 1 0) _ rfl ?_; refine Zpp 1 rfl ?_; refine Y1 rfl ?_; refine bindK h fun y1 hy1 h => ?_; refine W.call rfl (cmp_Compare_int_fn hy1) ?_; refine Zwp 1 rfl ?_; refine Y1 rfl ?_; refine W.chk rfl (by decide) ?_; refine W.det (.lp 2 1 1) _ rfl ?_; refine Zpp 1 rfl ?_; refine Y1 rfl ?_; refine W.chk rfl (by decide) ?_; refine W.det (.lp 3 1 1) _ rfl ?_; refine Zpp 1 rfl ?_; refine Y1 rfl ?_; refine bindK h fun y2 hy2 h => ?_; refine W.call rfl (cmp_Compare_int_fn hy2) ?_; refine Zwp 1 rfl ?_; refine Zm (.row 15 1 2) (Mem.add _ 15 (.rows 1 (List.map (encI .i64) [y1, y2]) false)) rfl rfl ?_; refine Y1 rfl ?_; refine bindK h fun y3 hy3 h => ?_; refine W.call rfl (cmp_Or_int_fn hy3) ?_; refine Zwb 5 rfl ?_; cases h; cases hG; exact ⟨rfl, trivial⟩
structure api_Event where
  Author : Int
  Seq : Int
  Causes : (List Int)
  Kind : Int
  Group : Int
  Target : Int
  Quote : Int
  Who : Int
  N : Int
  Text : ByteArray
  Files : (List Int)
  Step : Int
def api_Event.enc (x : api_Event) : List D := [.v (.int .i64 x.Author), .v (.int .i64 x.Seq), .fz (List.map (encI .i64) x.Causes), .v (.int .i64 x.Kind), .v (.int .i64 x.Group), .v (.int .i64 x.Target), .v (.int .i64 x.Quote), .v (.int .i64 x.Who), .v (.int .i64 x.N), .v (.string x.Text), .fz (List.map (encI .i64) x.Files), .v (.int .i64 x.Step)]
abbrev api_Event.av (x : api_Event) : List AV := [VI x.Author, VI x.Seq, VF (List.map (encI .i64) x.Causes), VI x.Kind, VI x.Group, VI x.Target, VI x.Quote, VI x.Who, VI x.N, VS x.Text, VF (List.map (encI .i64) x.Files), VI x.Step]
noncomputable def view_message (events_ : (List api_Event)) (id_ : Int) : Option (Bool) :=
  (bif (decide ((0 : Int) ≤ id_)) then
    (bif (decide (id_ < (events_.length : Int))) then
      (getI events_ id_).bind fun x1 =>
      some (x1.Kind == (0 : Int))
    else
      some false)
  else
    some false)
theorem view_message_fn {dr : Prop} {events_ : (List api_Event)} {id_ : Int} {r : Bool} (h : view_message events_ id_ = some r) : Fn dr Try.prog 36 [VF (List.map api_Event.enc events_), VI id_] (VB r) := by
  refine Fn.of_AW (dr := dr) (F := FnX dr Try.prog) (base := 0) (js := []) mixed tok noeqs (fun _ _ _ h => h) Try.call36 Try.func36 rfl Try.ntmps36 (by rw [Try.results36]) (by simp) ?_; have hG : (fun x => x = r) r := rfl; unfold view_message at h; refine Zap 10 rfl ?_; refine YT rfl rfl rfl h (fun _ h => ?_) (fun _ h => ?_)
  · refine Zwp 2 rfl ?_; refine Y2 rfl rfl rfl ?_; refine W.len rfl ?_; refine Zpp 3 rfl ?_; refine YT rfl rfl rfl h (fun _ h => ?_) (fun _ h => ?_)
    · refine Zwp 2 rfl ?_; refine Y2 rfl rfl rfl ?_; refine bindK h fun x1 hx1 h => ?_; refine W.chk rfl (elemB hx1) ?_; refine W.elem rfl (elemG hx1) ?_; refine W.chk rfl rfl ?_; refine W.det (.fp [.v (.int .i64 x1.Author), .v (.int .i64 x1.Seq), .fz (List.map (encI .i64) x1.Causes), .v (.int .i64 x1.Kind), .v (.int .i64 x1.Group), .v (.int .i64 x1.Target), .v (.int .i64 x1.Quote), .v (.int .i64 x1.Who), .v (.int .i64 x1.N), .v (.string x1.Text), .fz (List.map (encI .i64) x1.Files), .v (.int .i64 x1.Step)]) _ rfl ?_; refine Zu (.fp [.v (.int .i64 x1.Kind), .v (.int .i64 x1.Group), .v (.int .i64 x1.Target), .v (.int .i64 x1.Quote), .v (.int .i64 x1.Who), .v (.int .i64 x1.N), .v (.string x1.Text), .fz (List.map (encI .i64) x1.Files), .v (.int .i64 x1.Step)]) rfl rfl rfl rfl ?_; refine Zpb 7 rfl ?_; cases h; cases hG; exact ⟨rfl, trivial⟩
    · refine Zpb 10 rfl ?_; cases h; cases hG; exact ⟨rfl, trivial⟩
  · refine Zpb 16 rfl ?_; cases h; cases hG; exact ⟨rfl, trivial⟩
noncomputable def view_parent (events_ : (List api_Event)) (id_ : Int) : Option (Int) :=
  (getI events_ id_).bind fun x4 =>
  (bif (decide (x4.Target < id_)) then
    (view_message events_ x4.Target).bind fun y6 =>
    (bif y6 then
      some x4.Target
    else
      some (-1 : Int))
  else
    some (-1 : Int))
theorem view_parent_fn {dr : Prop} {events_ : (List api_Event)} {id_ : Int} {r : Int} (h : view_parent events_ id_ = some r) : Fn dr Try.prog 25 [VF (List.map api_Event.enc events_), VI id_] (VI r) := by
  refine Fn.of_AW (dr := dr) (F := FnX dr Try.prog) (base := 0) (js := []) mixed tok noeqs (fun _ _ _ h => h) Try.call25 Try.func25 rfl Try.ntmps25 (by rw [Try.results25]) (by simp) ?_; have hG : (fun x => x = r) r := rfl; unfold view_parent at h; refine Zap 10 rfl ?_; refine Y1 rfl ?_; refine bindK h fun x4 hx4 h => ?_; refine W.chk rfl (elemB hx4) ?_; refine W.elem rfl (elemG hx4) ?_; refine W.chk rfl rfl ?_; refine W.det (.fp [.v (.int .i64 x4.Author), .v (.int .i64 x4.Seq), .fz (List.map (encI .i64) x4.Causes), .v (.int .i64 x4.Kind), .v (.int .i64 x4.Group), .v (.int .i64 x4.Target), .v (.int .i64 x4.Quote), .v (.int .i64 x4.Who), .v (.int .i64 x4.N), .v (.string x4.Text), .fz (List.map (encI .i64) x4.Files), .v (.int .i64 x4.Step)]) _ rfl ?_; refine Zo (.fp [.v (.int .i64 x4.Target), .v (.int .i64 x4.Quote), .v (.int .i64 x4.Who), .v (.int .i64 x4.N), .v (.string x4.Text), .fz (List.map (encI .i64) x4.Files), .v (.int .i64 x4.Step)]) rfl rfl ?_; refine Zpp 10 rfl ?_; refine YT rfl rfl rfl h (fun _ h => ?_) (fun _ h => ?_)
  · refine Zwp 2 rfl ?_; refine Y2 rfl rfl rfl ?_; refine bindK h fun y6 hy6 h => ?_; refine W.call rfl (view_message_fn hy6) ?_; refine Zwc 4 rfl ?_; refine A.condB rfl h (fun _ h => ?_) (fun _ h => ?_)
    · refine Zcb 8 rfl ?_; cases h; cases hG; exact ⟨rfl, trivial⟩
    · refine Zcb 8 rfl ?_; cases h; cases hG; exact ⟨rfl, trivial⟩
  · refine Zpb 14 rfl ?_; cases h; cases hG; exact ⟨rfl, trivial⟩
noncomputable def slices_Clone_int_int_a : Option ((List Int)) :=
  some ([] : List Int)
theorem slices_Clone_int_int_a_fn {dr : Prop} {r : (List Int)} (h : slices_Clone_int_int_a = some r) : Fn dr Try.prog 29 [.d (.v (.slice none 0 0))] (.ow 1 (List.map (encI .i64) r)) := by
  refine Fn.of_AW (dr := dr) (F := FnX dr Try.prog) (base := 0) (js := []) mixed tok noeqs (fun _ _ _ h => h) Try.call29 Try.func29 rfl Try.ntmps29 (by rw [Try.results29]) (by simp) ?_; have hG : (fun x => x = r) r := rfl; unfold slices_Clone_int_int_a at h; refine Zap 2 rfl ?_; refine Zm (.row 2 1 0) (Mem.add _ 2 (.rows 1 (List.map (encI .i64) ([] : List Int)) false)) rfl rfl ?_; refine Zpp 5 rfl ?_; refine Zo (.d (.v (.slice none 0 0))) rfl rfl ?_; refine Zpp 6 rfl ?_; refine Zm (.row 2 2 0) (Mem.add _ 2 (.rows 1 (List.map (encI .i64) ([] : List Int)) false)) rfl rfl ?_; refine Zpb 4 rfl ?_; cases h; cases hG; exact ⟨rfl, rfl, trivial⟩
noncomputable def slices_Clone_int_int_b (a_ : Addr) (c_ : Nat) : Option ((List Int)) :=
  (chkO (decide (0 + ([] : List Int).length ≤ 1000000))).bind fun _ =>
  some (([] : List Int) ++ ([] : List Int))
theorem slices_Clone_int_int_b_fn {dr : Prop} {a_ : Addr} {c_ : Nat} {r : (List Int)} (h : slices_Clone_int_int_b a_ c_ = some r) : Fn dr Try.prog 29 [.d (.v (.slice (some a_) 0 c_))] (.ow 1 (List.map (encI .i64) r)) := by
  refine Fn.of_AW (dr := dr) (F := FnX dr Try.prog) (base := 0) (js := []) mixed tok noeqs (fun _ _ _ h => h) Try.call29 Try.func29 rfl Try.ntmps29 (by rw [Try.results29]) (by simp) ?_; have hG : (fun x => x = r) r := rfl; unfold slices_Clone_int_int_b at h; refine Zap 2 rfl ?_; refine Zm (.row 2 1 0) (Mem.add _ 2 (.rows 1 (List.map (encI .i64) ([] : List Int)) false)) rfl rfl ?_; refine Zpp 5 rfl ?_; refine Zo (.d (.v (.slice (some a_) 0 c_))) rfl rfl ?_; refine Zpp 8 rfl ?_; refine Zm (.row 5 1 0) (Mem.add _ 5 (.rows 1 (List.map (encI .i64) ([] : List Int)) false)) rfl rfl ?_; refine Zo (.d (.v (.slice (some a_) 0 c_))) rfl rfl ?_; refine Y1 rfl ?_; refine chkK h fun g1 h => ?_; refine W.chk rfl ⟨fun _ hc => (by cases hc), of_decide_eq_true g1⟩ ?_; refine W.rows (0 + (List.map (encI .i64) ([] : List Int)).length) (([] : List Int) ++ ([] : List Int)).length ([] ++ (List.map (encI .i64) ([] : List Int))) (List.map (encI .i64) (([] : List Int) ++ ([] : List Int))) rfl (by first | rfl | (simp; done) | simp only [partMap, List.length_map, List.length_append, List.nil_append, Nat.zero_add, List.length_nil]) (by first | rfl | (simp; done) | simp only [partMap, List.map_append, List.nil_append, List.map_nil]) ?_; refine Zo (.row 5 2 (([] : List Int) ++ ([] : List Int)).length) rfl rfl ?_; refine Zpb 3 rfl ?_; cases h; cases hG; exact ⟨rfl, rfl, trivial⟩
noncomputable def slices_Clone_int_int_c (x_ : Int) (s_ : (List Int)) : Option ((List Int)) :=
  (chkO (decide (0 + (x_ :: s_).length ≤ 1000000))).bind fun _ =>
  some (([] : List Int) ++ (x_ :: s_))
theorem slices_Clone_int_int_c_fn {dr : Prop} {x_ : Int} {s_ : (List Int)} {r : (List Int)} (h : slices_Clone_int_int_c x_ s_ = some r) : Fn dr Try.prog 29 [VF (List.map (encI .i64) (x_ :: s_))] (.ow 1 (List.map (encI .i64) r)) := by
  refine Fn.of_AW (dr := dr) (F := FnX dr Try.prog) (base := 0) (js := []) mixed tok noeqs (fun _ _ _ h => h) Try.call29 Try.func29 rfl Try.ntmps29 (by rw [Try.results29]) (by simp) ?_; have hG : (fun x => x = r) r := rfl; unfold slices_Clone_int_int_c at h; refine Zap 2 rfl ?_; refine Zm (.row 2 1 0) (Mem.add _ 2 (.rows 1 (List.map (encI .i64) ([] : List Int)) false)) rfl rfl ?_; refine Zpp 14 rfl ?_; refine Zm (.row 5 1 0) (Mem.add _ 5 (.rows 1 (List.map (encI .i64) ([] : List Int)) false)) rfl rfl ?_; refine Zpp 1 rfl ?_; refine Y1 rfl ?_; refine chkK h fun g1 h => ?_; refine W.chk rfl (appChk (fun _ => rfl) g1) ?_; refine W.rows (0 + (List.map (encI .i64) (x_ :: s_)).length) (([] : List Int) ++ (x_ :: s_)).length ([] ++ (List.map (encI .i64) (x_ :: s_))) (List.map (encI .i64) (([] : List Int) ++ (x_ :: s_))) rfl (by first | rfl | (simp; done) | simp only [partMap, List.length_map, List.length_append, List.nil_append, Nat.zero_add, List.length_nil]) (by first | rfl | (simp; done) | simp only [partMap, List.map_append, List.nil_append, List.map_nil]) ?_; refine Zo (.row 5 2 (([] : List Int) ++ (x_ :: s_)).length) rfl rfl ?_; refine Zpb 3 rfl ?_; cases h; cases hG; exact ⟨rfl, rfl, trivial⟩
noncomputable def slices_Clone_int_int (s_ : List Int) : Option (List Int) := (chkO (decide (s_.length ≤ 1000000))).bind fun _ => some s_
theorem slices_Clone_int_int_fn {dr : Prop} {s_ r : List Int} (h : slices_Clone_int_int s_ = some r) : Fn dr Try.prog 29 [VF (List.map (encI .i64) s_)] (.ow 1 (List.map (encI .i64) r)) := by
  have e : s_ = r := cloneE h
  subst e
  cases s_ with
  | nil => exact Fn.slice0 (slices_Clone_int_int_a_fn rfl) fun a c => slices_Clone_int_int_b_fn (a_ := a) (c_ := c) rfl
  | cons x s =>
    refine slices_Clone_int_int_c_fn ?_; unfold slices_Clone_int_int at h; unfold slices_Clone_int_int_c
    simpa only [List.nil_append, Nat.zero_add] using h
noncomputable def law16_story : Option ((List api_Event)) :=
  some [(api_Event.mk (1 : Int) (0 : Int) ([] : List Int) (0 : Int) (0 : Int) (-1 : Int) (-1 : Int) (-1 : Int) (0 : Int) (ByteArray.mk #[97]) ([] : List Int) (0 : Int)), (api_Event.mk (13 : Int) (0 : Int) ([] : List Int) (0 : Int) (0 : Int) (0 : Int) (-1 : Int) (-1 : Int) (0 : Int) (ByteArray.mk #[98]) ([] : List Int) (0 : Int)), (api_Event.mk (1 : Int) (1 : Int) ([] : List Int) (1 : Int) (0 : Int) (0 : Int) (-1 : Int) (-1 : Int) (0 : Int) (ByteArray.mk #[99]) ([] : List Int) (0 : Int)), (api_Event.mk (13 : Int) (1 : Int) ([] : List Int) (3 : Int) (0 : Int) (0 : Int) (-1 : Int) (-1 : Int) (7 : Int) (ByteArray.mk #[]) ([] : List Int) (0 : Int)), (api_Event.mk (13 : Int) (2 : Int) ([] : List Int) (1 : Int) (0 : Int) (0 : Int) (-1 : Int) (-1 : Int) (0 : Int) (ByteArray.mk #[100]) ([] : List Int) (0 : Int)), (api_Event.mk (1 : Int) (2 : Int) ([] : List Int) (2 : Int) (0 : Int) (1 : Int) (-1 : Int) (-1 : Int) (0 : Int) (ByteArray.mk #[]) ([] : List Int) (0 : Int))]
theorem law16_story_fn {dr : Prop} {r : (List api_Event)} (h : law16_story = some r) : Fn dr Try.prog 24 [] (.ow 12 (List.map api_Event.enc r)) := by
  refine Fn.of_AW (dr := dr) (F := FnX dr Try.prog) (base := 0) (js := []) mixed tok noeqs (fun _ _ _ h => h) Try.call24 Try.func24 rfl Try.ntmps24 (by rw [Try.results24]) (by simp) ?_; have hG : (fun x => x = r) r := rfl; unfold law16_story at h; refine Zap 2 rfl ?_; refine Zm (.row 0 1 0) (Mem.add _ 0 (.rows 12 (List.map api_Event.enc ([] : List api_Event)) false)) rfl rfl ?_; refine Zpp 4 rfl ?_; refine Zo (.agg [VI 1, VI 0, .nl, VI 0, VI 0, VI (-1), VI (-1), VI (-1), VI 0, VS (ByteArray.mk #[97]), .nl, VI 0]) rfl rfl ?_; refine Zo (.agg [VI 13, VI 0, .nl, VI 0, VI 0, VI 0, VI (-1), VI (-1), VI 0, VS (ByteArray.mk #[98]), .nl, VI 0]) rfl rfl ?_; refine Zo (.agg [VI 1, VI 1, .nl, VI 1, VI 0, VI 0, VI (-1), VI (-1), VI 0, VS (ByteArray.mk #[99]), .nl, VI 0]) rfl rfl ?_; refine Zo (.agg [VI 13, VI 1, .nl, VI 3, VI 0, VI 0, VI (-1), VI (-1), VI 7, VS (ByteArray.mk #[]), .nl, VI 0]) rfl rfl ?_; refine Zo (.agg [VI 13, VI 2, .nl, VI 1, VI 0, VI 0, VI (-1), VI (-1), VI 0, VS (ByteArray.mk #[100]), .nl, VI 0]) rfl rfl ?_; refine Zo (.agg [VI 1, VI 2, .nl, VI 2, VI 0, VI 1, VI (-1), VI (-1), VI 0, VS (ByteArray.mk #[]), .nl, VI 0]) rfl rfl ?_; refine Zm (.row 7 1 6) (Mem.add _ 7 (.rows 12 (List.map api_Event.enc [(api_Event.mk (1 : Int) (0 : Int) ([] : List Int) (0 : Int) (0 : Int) (-1 : Int) (-1 : Int) (-1 : Int) (0 : Int) (ByteArray.mk #[97]) ([] : List Int) (0 : Int)), (api_Event.mk (13 : Int) (0 : Int) ([] : List Int) (0 : Int) (0 : Int) (0 : Int) (-1 : Int) (-1 : Int) (0 : Int) (ByteArray.mk #[98]) ([] : List Int) (0 : Int)), (api_Event.mk (1 : Int) (1 : Int) ([] : List Int) (1 : Int) (0 : Int) (0 : Int) (-1 : Int) (-1 : Int) (0 : Int) (ByteArray.mk #[99]) ([] : List Int) (0 : Int)), (api_Event.mk (13 : Int) (1 : Int) ([] : List Int) (3 : Int) (0 : Int) (0 : Int) (-1 : Int) (-1 : Int) (7 : Int) (ByteArray.mk #[]) ([] : List Int) (0 : Int)), (api_Event.mk (13 : Int) (2 : Int) ([] : List Int) (1 : Int) (0 : Int) (0 : Int) (-1 : Int) (-1 : Int) (0 : Int) (ByteArray.mk #[100]) ([] : List Int) (0 : Int)), (api_Event.mk (1 : Int) (2 : Int) ([] : List Int) (2 : Int) (0 : Int) (1 : Int) (-1 : Int) (-1 : Int) (0 : Int) (ByteArray.mk #[]) ([] : List Int) (0 : Int))]) false)) rfl rfl ?_; refine Zo (.row 7 1 6) rfl rfl ?_; refine Zpb 3 rfl ?_; cases h; cases hG; exact ⟨rfl, rfl, trivial⟩
end Go.Proofs.Ytpikahfgidgdbaa
