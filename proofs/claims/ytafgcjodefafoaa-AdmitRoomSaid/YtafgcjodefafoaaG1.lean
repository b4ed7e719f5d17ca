/-
  Plain programs of functions, and that the functions do what they say. Printed by wip/tools/gen.py.
-/
import Derived.Test.YtafgcjodefafoaaTy
import Derived.Test.YtafgcjodefafoaaEvS
import Derived.Test.YtafgcjodefafoaaEvW
import Derived.Test.YtafgcjodefafoaaShelf
namespace Go.Proofs.Ytafgcjodefafoaa
open Go.RowKit
attribute [local irreducible] IntKind.wrap
set_option linter.unusedVariables false
set_option maxHeartbeats 4000000
set_option maxRecDepth 100000
structure api_Profile where
  Name : ByteArray
  Edit : Int
  Within : Int
  Delete : Int
  React : Bool
  Thread : Int
  Quote : Bool
  Mention : Bool
  Size : Int
  Parts : Int
  Files : Int
  Bytes : Int
  Types : (List ByteArray)
  Join : Int
  History : Int
  Remove : Int
  Level : Int
  Batch : Bool
  Rate : Int
  Down : Int
  Window : Int
  Keep : Int
def api_Profile.enc (x : api_Profile) : List D := [.v (.string x.Name), .v (.int .i64 x.Edit), .v (.int .i64 x.Within), .v (.int .i64 x.Delete), .v (.bool x.React), .v (.int .i64 x.Thread), .v (.bool x.Quote), .v (.bool x.Mention), .v (.int .i64 x.Size), .v (.int .i64 x.Parts), .v (.int .i64 x.Files), .v (.int .i64 x.Bytes), .fz (List.map encS x.Types), .v (.int .i64 x.Join), .v (.int .i64 x.History), .v (.int .i64 x.Remove), .v (.int .i64 x.Level), .v (.bool x.Batch), .v (.int .i64 x.Rate), .v (.int .i64 x.Down), .v (.int .i64 x.Window), .v (.int .i64 x.Keep)]
noncomputable def law29_link : Option (api_Profile) :=
  some (api_Profile.mk (ByteArray.mk #[97]) (0 : Int) (0 : Int) (0 : Int) false (0 : Int) false false (100 : Int) (1 : Int) (0 : Int) (0 : Int) ([] : List ByteArray) (0 : Int) (0 : Int) (0 : Int) (0 : Int) false (10 : Int) (1 : Int) (4 : Int) (0 : Int))
theorem law29_link_fn {r : api_Profile} (h : law29_link = some r) : Fn Try.prog 24 [] (.agg [.d (.v (.string r.Name)), .d (.v (.int .i64 r.Edit)), .d (.v (.int .i64 r.Within)), .d (.v (.int .i64 r.Delete)), .d (.v (.bool r.React)), .d (.v (.int .i64 r.Thread)), .d (.v (.bool r.Quote)), .d (.v (.bool r.Mention)), .d (.v (.int .i64 r.Size)), .d (.v (.int .i64 r.Parts)), .d (.v (.int .i64 r.Files)), .d (.v (.int .i64 r.Bytes)), .ow 1 (List.map encS r.Types), .d (.v (.int .i64 r.Join)), .d (.v (.int .i64 r.History)), .d (.v (.int .i64 r.Remove)), .d (.v (.int .i64 r.Level)), .d (.v (.bool r.Batch)), .d (.v (.int .i64 r.Rate)), .d (.v (.int .i64 r.Down)), .d (.v (.int .i64 r.Window)), .d (.v (.int .i64 r.Keep))]) := by
  refine Fn.of_AW (F := FnX Try.prog) (base := 0) (js := []) mixed tok noeqs (fun _ _ _ h => h) Try.call24 Try.func24 rfl Try.ntmps24 (by rw [Try.results24]) (by simp) ?_
  have hG : (fun x => x = r) r := rfl
  unfold law29_link at h
  refine A.seq rfl ?_
  refine A.region ?_
  refine R.one rfl ?_
  refine W.det (.lp 0 1 0) (Mem.add (Mem.add _ 851968 (.rows 1 (List.map encS ([] : List ByteArray)) false)) 0 (.box [.d (.v (.string (ByteArray.mk #[]))), .d (.v (.int .i64 (0 : Int))), .d (.v (.int .i64 (0 : Int))), .d (.v (.int .i64 (0 : Int))), .d (.v (.bool false)), .d (.v (.int .i64 (0 : Int))), .d (.v (.bool false)), .d (.v (.bool false)), .d (.v (.int .i64 (0 : Int))), .d (.v (.int .i64 (0 : Int))), .d (.v (.int .i64 (0 : Int))), .d (.v (.int .i64 (0 : Int))), .row 851968 1 0, .d (.v (.int .i64 (0 : Int))), .d (.v (.int .i64 (0 : Int))), .d (.v (.int .i64 (0 : Int))), .d (.v (.int .i64 (0 : Int))), .d (.v (.bool false)), .d (.v (.int .i64 (0 : Int))), .d (.v (.int .i64 (0 : Int))), .d (.v (.int .i64 (0 : Int))), .d (.v (.int .i64 (0 : Int)))])) rfl ?_
  refine R.nil ?_
  refine seqK.n ?_
  refine A.seq rfl ?_
  refine A.region ?_
  refine R.one rfl ?_
  refine W.det (.agg [.d (.v (.string (ByteArray.mk #[97]))), .d (.v (.int .i64 (0 : Int))), .d (.v (.int .i64 (0 : Int))), .d (.v (.int .i64 (0 : Int))), .d (.v (.bool false)), .d (.v (.int .i64 (0 : Int))), .d (.v (.bool false)), .d (.v (.bool false)), .d (.v (.int .i64 (100 : Int))), .d (.v (.int .i64 (1 : Int))), .d (.v (.int .i64 (0 : Int))), .d (.v (.int .i64 (0 : Int))), .nl, .d (.v (.int .i64 (0 : Int))), .d (.v (.int .i64 (0 : Int))), .d (.v (.int .i64 (0 : Int))), .d (.v (.int .i64 (0 : Int))), .d (.v (.bool false)), .d (.v (.int .i64 (10 : Int))), .d (.v (.int .i64 (1 : Int))), .d (.v (.int .i64 (4 : Int))), .d (.v (.int .i64 (0 : Int)))]) _ rfl ?_
  refine R.one rfl ?_
  refine W.det (.tup []) (Mem.set (Mem.add _ 1900544 (.rows 1 (List.map encS ([] : List ByteArray)) false)) 0 1 (some (.box [.d (.v (.string (ByteArray.mk #[97]))), .d (.v (.int .i64 (0 : Int))), .d (.v (.int .i64 (0 : Int))), .d (.v (.int .i64 (0 : Int))), .d (.v (.bool false)), .d (.v (.int .i64 (0 : Int))), .d (.v (.bool false)), .d (.v (.bool false)), .d (.v (.int .i64 (100 : Int))), .d (.v (.int .i64 (1 : Int))), .d (.v (.int .i64 (0 : Int))), .d (.v (.int .i64 (0 : Int))), .row 1900544 1 0, .d (.v (.int .i64 (0 : Int))), .d (.v (.int .i64 (0 : Int))), .d (.v (.int .i64 (0 : Int))), .d (.v (.int .i64 (0 : Int))), .d (.v (.bool false)), .d (.v (.int .i64 (10 : Int))), .d (.v (.int .i64 (1 : Int))), .d (.v (.int .i64 (4 : Int))), .d (.v (.int .i64 (0 : Int)))]))) rfl ?_
  refine R.nil ?_
  refine seqK.n ?_
  refine A.ret ?_
  injection h with h
  subst h
  cases hG
  exact ⟨rfl, rfl, rfl, rfl, rfl, rfl, rfl, rfl, rfl, rfl, rfl, rfl, rfl, rfl, rfl, rfl, rfl, rfl, rfl, rfl, rfl, rfl, rfl, trivial⟩
noncomputable def lex_letter (c_ : Int) : Option (Bool) :=
  (bif (decide ((97 : Int) ≤ c_)) then
    some (decide (c_ ≤ (122 : Int)))
  else
    some false)
theorem lex_letter_fn {c_ : Int} {r : Bool} (h : lex_letter c_ = some r) : Fn Try.prog 53 [.d (.v (.int .u8 c_))] (.d (.v (.bool r))) := by
  refine Fn.of_AW (F := FnX Try.prog) (base := 0) (js := []) mixed tok noeqs (fun _ _ _ h => h) Try.call53 Try.func53 rfl Try.ntmps53 (by rw [Try.results53]) (by simp) ?_
  have hG : (fun x => x = r) r := rfl
  unfold lex_letter at h
  refine A.seq rfl ?_
  refine A.region ?_
  refine R.one rfl ?_
  refine W.det (.kb false) _ rfl ?_
  refine R.nil ?_
  refine seqK.n ?_
  refine A.seq rfl ?_
  refine A.region ?_
  refine R.one rfl ?_
  refine W.det (.d (.v (.int .u8 c_))) _ rfl ?_
  refine R.one rfl ?_
  refine W.det (.d (.v (.bool (decide ((97 : Int) ≤ c_))))) _ rfl ?_
  refine R.one rfl ?_
  refine W.det (.d (.v (.bool (decide ((97 : Int) ≤ c_))))) _ rfl ?_
  refine R.gT rfl rfl rfl h (fun _ h => ?_) (fun _ h => ?_)
  · refine W.det (.d (.v (.int .u8 c_))) _ rfl ?_
    refine R.run rfl rfl rfl ?_
    refine W.det (.d (.v (.bool (decide (c_ ≤ (122 : Int)))))) _ rfl ?_
    refine R.one rfl ?_
    refine W.det (.d (.v (.bool (decide (c_ ≤ (122 : Int)))))) _ rfl ?_
    refine R.one rfl ?_
    refine W.det (.d (.v (.bool (decide (c_ ≤ (122 : Int)))))) _ rfl ?_
    refine R.nil ?_
    refine seqK.n ?_
    refine A.ret ?_
    injection h with h
    subst h
    cases hG
    exact ⟨rfl, trivial⟩
  · refine R.skip rfl rfl rfl ?_
    refine R.one rfl ?_
    refine W.det (.kb false) _ rfl ?_
    refine R.one rfl ?_
    refine W.det (.kb false) _ rfl ?_
    refine R.nil ?_
    refine seqK.n ?_
    refine A.ret ?_
    injection h with h
    subst h
    cases hG
    exact ⟨rfl, trivial⟩
noncomputable def lex_span_L1 (s_ : ByteArray) (is_ : (Int → Option (Bool))) (s3 : Int) : Option ((Int) ⊕ ((Int) ⊕ (Int))) :=
  (bif (decide (s3 < (s_.size : Int))) then
    (chkO (decide (0 ≤ s3) && decide (s3 < (s_.size : Int)))).bind fun _ =>
    (is_ ((s_.data.toList.getD s3.toNat 0).toNat : Int)).bind fun y24 =>
    (bif y24 then
      some (.inl (IntKind.i64.wrap (s3 + (1 : Int))))
    else
      some (.inr (.inl s3)))
  else
    some (.inr (.inl s3)))
noncomputable def lex_span (s_ : ByteArray) (is_ : (Int → Option (Bool))) : Option (Int) :=
  (seqF (A := Int) (
    loopF (lex_span_L1 s_ is_) (0 : Int))
  fun s2 =>
    some s2)
theorem lex_span_fn {s_ : ByteArray} {is_ : (Int → Option (Bool))} {is_F : FuncId} {is_C : List AV} (is_H : is_C.all capd = true) (is_P : ∀ (q0 : Int) (z : Bool), is_ q0 = some z → Fn Try.prog is_F ([.d (.v (.int .u8 q0))] ++ is_C) (.d (.v (.bool z)))) {r : Int} (h : lex_span s_ is_ = some r) : Fn Try.prog 54 [.d (.v (.string s_)), .fn is_F is_C] (.d (.v (.int .i64 r))) := by
  refine Fn.of_AW (F := FnX Try.prog) (base := 0) (js := [4]) mixed tok noeqs (fun _ _ _ h => h) Try.call54 Try.func54 rfl Try.ntmps54 (by rw [Try.results54]) (by simp) ?_
  have hG : (fun x => x = r) r := rfl
  unfold lex_span at h
  refine A.seq rfl ?_
  refine A.region ?_
  refine R.one rfl ?_
  refine W.det (.d (.v (.int .i64 (0 : Int)))) _ rfl ?_
  refine R.nil ?_
  refine seqK.n ?_
  refine A.seq rfl ?_
  refine A.region ?_
  refine R.one rfl ?_
  refine W.det (.d (.v (.int .i64 (0 : Int)))) _ rfl ?_
  refine R.nil ?_
  refine seqK.n ?_
  refine A.join (fun (s2 : Int) => [(5, .d (.v (.int .i64 s2)))]) (fun s2 => []) _ h hG rfl ?_ ?_
  · intro J f h hG
    refine A.block ?_
    refine A.loop (fun (s3 : Int) => [(0, .d (.v (.string s_))), (1, .fn is_F is_C), (5, .d (.v (.int .i64 s3)))]) (fun s3 => []) _ h hG (Enters.of [] [] _ rfl rfl (chkE.c rfl rfl (chkE.g is_H rfl (chkE.c rfl rfl trivial))) trivial) ?_
    intro J s3 f h hG
    unfold lex_span_L1 at h
    refine A.seq rfl ?_
    refine A.seq rfl ?_
    refine A.region ?_
    refine R.one rfl ?_
    refine W.det (.d (.v (.int .i64 s3))) _ rfl ?_
    refine R.one rfl ?_
    refine W.det (.d (.v (.string s_))) _ rfl ?_
    refine R.one rfl ?_
    refine W.det (.d (.v (.int .i64 (s_.size : Int)))) _ rfl ?_
    refine R.one rfl ?_
    refine W.det (.d (.v (.bool (decide (s3 < (s_.size : Int)))))) _ rfl ?_
    refine R.one rfl ?_
    refine W.det (.d (.v (.bool (decide (s3 < (s_.size : Int)))))) _ rfl ?_
    refine R.gT rfl rfl rfl h (fun _ h => ?_) (fun _ h => ?_)
    · refine W.det (.fn is_F is_C) _ rfl ?_
      refine R.run rfl rfl rfl ?_
      refine W.det (.d (.v (.string s_))) _ rfl ?_
      refine R.run rfl rfl rfl ?_
      refine W.det (.d (.v (.int .i64 s3))) _ rfl ?_
      refine R.run rfl rfl rfl ?_
      refine chkK h fun g23 h => ?_
      refine W.chk rfl (by simpa using g23) ?_
      refine W.det (.d (.v (.int .u8 ((s_.data.toList.getD s3.toNat 0).toNat : Int)))) _ rfl ?_
      refine R.run rfl rfl rfl ?_
      refine bindK h fun y24 hy24 h => ?_
      refine callG rfl rfl rfl is_H ?_
      refine W.call rfl (is_P _ _ hy24) ?_
      refine W.det (.d (.v (.bool y24))) _ rfl ?_
      refine R.one rfl ?_
      refine W.det (.d (.v (.bool y24))) _ rfl ?_
      refine R.nil ?_
      refine seqK.n ?_
      refine A.condB rfl h (fun _ h => ?_) (fun _ h => ?_)
      · refine A.skip ?_
        refine seqK.n ?_
        refine A.block ?_
        refine A.region ?_
        refine R.one rfl ?_
        refine W.det (.d (.v (.int .i64 s3))) _ rfl ?_
        refine R.one rfl ?_
        refine W.det (.d (.v (.int .i64 (IntKind.i64.wrap (s3 + (1 : Int)))))) _ rfl ?_
        refine R.one rfl ?_
        refine W.det (.d (.v (.int .i64 (IntKind.i64.wrap (s3 + (1 : Int)))))) _ rfl ?_
        refine R.nil ?_
        refine blockK.n ?_
        injection h with h
        subst h
        exact headK.n hG (Enters.of [] [] _ rfl rfl (chkE.c rfl rfl (chkE.g is_H rfl (chkE.c rfl rfl trivial))) trivial)
      · refine A.exit ?_
        refine seqK.e ?_
        refine headK.e ?_
        refine blockK.x ?_
        injection h with h
        subst h
        exact headK.n hG (Enters.of [] [] _ rfl rfl (chkE.c rfl rfl trivial) trivial)
    · refine R.skip rfl rfl rfl ?_
      refine R.skip rfl rfl rfl ?_
      refine R.skip rfl rfl rfl ?_
      refine R.skip rfl rfl rfl ?_
      refine R.one rfl ?_
      refine W.det (.kb false) _ rfl ?_
      refine R.nil ?_
      refine seqK.n ?_
      refine A.condF rfl ?_
      refine A.exit ?_
      refine seqK.e ?_
      refine headK.e ?_
      refine blockK.x ?_
      injection h with h
      subst h
      exact headK.n hG (Enters.of [] [] _ rfl rfl (chkE.c rfl rfl trivial) trivial)
  · intro s2 r2 h hG
    refine A.seq rfl ?_
    refine A.region ?_
    refine R.one rfl ?_
    refine W.det (.d (.v (.int .i64 s2))) _ rfl ?_
    refine R.one rfl ?_
    refine W.det (.d (.v (.int .i64 s2))) _ rfl ?_
    refine R.nil ?_
    refine seqK.n ?_
    refine A.ret ?_
    injection h with h
    subst h
    cases hG
    exact ⟨rfl, trivial⟩
noncomputable def lex_digit (c_ : Int) : Option (Bool) :=
  (bif (decide ((48 : Int) ≤ c_)) then
    some (decide (c_ ≤ (57 : Int)))
  else
    some false)
theorem lex_digit_fn {c_ : Int} {r : Bool} (h : lex_digit c_ = some r) : Fn Try.prog 56 [.d (.v (.int .u8 c_))] (.d (.v (.bool r))) := by
  refine Fn.of_AW (F := FnX Try.prog) (base := 0) (js := []) mixed tok noeqs (fun _ _ _ h => h) Try.call56 Try.func56 rfl Try.ntmps56 (by rw [Try.results56]) (by simp) ?_
  have hG : (fun x => x = r) r := rfl
  unfold lex_digit at h
  refine A.seq rfl ?_
  refine A.region ?_
  refine R.one rfl ?_
  refine W.det (.kb false) _ rfl ?_
  refine R.nil ?_
  refine seqK.n ?_
  refine A.seq rfl ?_
  refine A.region ?_
  refine R.one rfl ?_
  refine W.det (.d (.v (.int .u8 c_))) _ rfl ?_
  refine R.one rfl ?_
  refine W.det (.d (.v (.bool (decide ((48 : Int) ≤ c_))))) _ rfl ?_
  refine R.one rfl ?_
  refine W.det (.d (.v (.bool (decide ((48 : Int) ≤ c_))))) _ rfl ?_
  refine R.gT rfl rfl rfl h (fun _ h => ?_) (fun _ h => ?_)
  · refine W.det (.d (.v (.int .u8 c_))) _ rfl ?_
    refine R.run rfl rfl rfl ?_
    refine W.det (.d (.v (.bool (decide (c_ ≤ (57 : Int)))))) _ rfl ?_
    refine R.one rfl ?_
    refine W.det (.d (.v (.bool (decide (c_ ≤ (57 : Int)))))) _ rfl ?_
    refine R.one rfl ?_
    refine W.det (.d (.v (.bool (decide (c_ ≤ (57 : Int)))))) _ rfl ?_
    refine R.nil ?_
    refine seqK.n ?_
    refine A.ret ?_
    injection h with h
    subst h
    cases hG
    exact ⟨rfl, trivial⟩
  · refine R.skip rfl rfl rfl ?_
    refine R.one rfl ?_
    refine W.det (.kb false) _ rfl ?_
    refine R.one rfl ?_
    refine W.det (.kb false) _ rfl ?_
    refine R.nil ?_
    refine seqK.n ?_
    refine A.ret ?_
    injection h with h
    subst h
    cases hG
    exact ⟨rfl, trivial⟩
noncomputable def lex_Word_1 (c_ : Int) : Option (Bool) :=
  (lex_letter c_).bind fun y1 =>
  (bif y1 then
    some true
  else
    (lex_digit c_).bind fun y2 =>
    some y2)
theorem lex_Word_1_fn {c_ : Int} {r : Bool} (h : lex_Word_1 c_ = some r) : Fn Try.prog 55 [.d (.v (.int .u8 c_))] (.d (.v (.bool r))) := by
  refine Fn.of_AW (F := FnX Try.prog) (base := 0) (js := []) mixed tok noeqs (fun _ _ _ h => h) Try.call55 Try.func55 rfl Try.ntmps55 (by rw [Try.results55]) (by simp) ?_
  have hG : (fun x => x = r) r := rfl
  unfold lex_Word_1 at h
  refine A.seq rfl ?_
  refine A.region ?_
  refine R.one rfl ?_
  refine W.det (.kb false) _ rfl ?_
  refine R.nil ?_
  refine seqK.n ?_
  refine A.seq rfl ?_
  refine A.region ?_
  refine R.one rfl ?_
  refine W.det (.d (.v (.int .u8 c_))) _ rfl ?_
  refine R.one rfl ?_
  refine bindK h fun y1 hy1 h => ?_
  refine W.call rfl (lex_letter_fn hy1) ?_
  refine W.det (.d (.v (.bool y1))) _ rfl ?_
  refine R.one rfl ?_
  refine W.det (.d (.v (.bool y1))) _ rfl ?_
  refine R.gF rfl rfl rfl h (fun _ h => ?_) (fun _ h => ?_)
  · refine R.skip rfl rfl rfl ?_
    refine R.one rfl ?_
    refine W.det (.kb true) _ rfl ?_
    refine R.one rfl ?_
    refine W.det (.kb true) _ rfl ?_
    refine R.nil ?_
    refine seqK.n ?_
    refine A.ret ?_
    injection h with h
    subst h
    cases hG
    exact ⟨rfl, trivial⟩
  · refine W.det (.d (.v (.int .u8 c_))) _ rfl ?_
    refine R.run rfl rfl rfl ?_
    refine bindK h fun y2 hy2 h => ?_
    refine W.call rfl (lex_digit_fn hy2) ?_
    refine W.det (.d (.v (.bool y2))) _ rfl ?_
    refine R.one rfl ?_
    refine W.det (.d (.v (.bool y2))) _ rfl ?_
    refine R.one rfl ?_
    refine W.det (.d (.v (.bool y2))) _ rfl ?_
    refine R.nil ?_
    refine seqK.n ?_
    refine A.ret ?_
    injection h with h
    subst h
    cases hG
    exact ⟨rfl, trivial⟩
noncomputable def lex_Word (s_ : ByteArray) : Option (Bool) :=
  (bif (s_.toList == (ByteArray.mk #[]).toList) then
    some false
  else
    (chkO (decide (0 ≤ (0 : Int)) && decide ((0 : Int) < (s_.size : Int)))).bind fun _ =>
    (lex_letter ((s_.data.toList.getD (0 : Int).toNat 0).toNat : Int)).bind fun y8 =>
    (bif (!y8) then
      some false
    else
      (bif (decide ((20 : Int) < (s_.size : Int))) then
        some false
      else
        (lex_span s_ lex_Word_1).bind fun y9 =>
        some (y9 == (s_.size : Int)))))
theorem lex_Word_fn {s_ : ByteArray} {r : Bool} (h : lex_Word s_ = some r) : Fn Try.prog 44 [.d (.v (.string s_))] (.d (.v (.bool r))) := by
  refine Fn.of_AW (F := FnX Try.prog) (base := 0) (js := []) mixed tok noeqs (fun _ _ _ h => h) Try.call44 Try.func44 rfl Try.ntmps44 (by rw [Try.results44]) (by simp) ?_
  have hG : (fun x => x = r) r := rfl
  unfold lex_Word at h
  refine A.seq rfl ?_
  refine A.region ?_
  refine R.one rfl ?_
  refine W.det (.kb false) _ rfl ?_
  refine R.nil ?_
  refine seqK.n ?_
  refine A.seq rfl ?_
  refine A.seq rfl ?_
  refine A.region ?_
  refine R.one rfl ?_
  refine W.det (.d (.v (.string s_))) _ rfl ?_
  refine R.one rfl ?_
  refine W.det (.d (.v (.bool (s_.toList == (ByteArray.mk #[]).toList)))) _ rfl ?_
  refine R.one rfl ?_
  refine W.det (.d (.v (.bool (s_.toList == (ByteArray.mk #[]).toList)))) _ rfl ?_
  refine R.gF rfl rfl rfl h (fun _ h => ?_) (fun _ h => ?_)
  · refine R.skip rfl rfl rfl ?_
    refine R.skip rfl rfl rfl ?_
    refine R.skip rfl rfl rfl ?_
    refine R.one rfl ?_
    refine W.det (.kb true) _ rfl ?_
    refine R.one rfl ?_
    refine W.det (.kb true) _ rfl ?_
    refine R.skip rfl rfl rfl ?_
    refine R.skip rfl rfl rfl ?_
    refine R.skip rfl rfl rfl ?_
    refine R.one rfl ?_
    refine W.det (.kb true) _ rfl ?_
    refine R.nil ?_
    refine seqK.n ?_
    refine A.condT rfl ?_
    refine A.seq rfl ?_
    refine A.region ?_
    refine R.one rfl ?_
    refine W.det (.kb false) _ rfl ?_
    refine R.nil ?_
    refine seqK.n ?_
    refine A.ret ?_
    refine seqK.r ?_
    injection h with h
    subst h
    cases hG
    exact ⟨rfl, trivial⟩
  · refine W.det (.d (.v (.string s_))) _ rfl ?_
    refine R.run rfl rfl rfl ?_
    refine chkK h fun g7 h => ?_
    refine W.chk rfl (by simpa using g7) ?_
    refine W.det (.d (.v (.int .u8 ((s_.data.toList.getD (0 : Int).toNat 0).toNat : Int)))) _ rfl ?_
    refine R.run rfl rfl rfl ?_
    refine bindK h fun y8 hy8 h => ?_
    refine W.call rfl (lex_letter_fn hy8) ?_
    refine W.det (.d (.v (.bool y8))) _ rfl ?_
    refine R.run rfl rfl rfl ?_
    refine W.det (.d (.v (.bool (!y8)))) _ rfl ?_
    refine R.one rfl ?_
    refine W.det (.d (.v (.bool (!y8)))) _ rfl ?_
    refine R.one rfl ?_
    refine W.det (.d (.v (.bool (!y8)))) _ rfl ?_
    refine R.gF rfl rfl rfl h (fun _ h => ?_) (fun _ h => ?_)
    · refine R.skip rfl rfl rfl ?_
      refine R.skip rfl rfl rfl ?_
      refine R.one rfl ?_
      refine W.det (.kb true) _ rfl ?_
      refine R.nil ?_
      refine seqK.n ?_
      refine A.condT rfl ?_
      refine A.seq rfl ?_
      refine A.region ?_
      refine R.one rfl ?_
      refine W.det (.kb false) _ rfl ?_
      refine R.nil ?_
      refine seqK.n ?_
      refine A.ret ?_
      refine seqK.r ?_
      injection h with h
      subst h
      cases hG
      exact ⟨rfl, trivial⟩
    · refine W.det (.d (.v (.string s_))) _ rfl ?_
      refine R.run rfl rfl rfl ?_
      refine W.det (.d (.v (.int .i64 (s_.size : Int)))) _ rfl ?_
      refine R.run rfl rfl rfl ?_
      refine W.det (.d (.v (.bool (decide ((20 : Int) < (s_.size : Int)))))) _ rfl ?_
      refine R.one rfl ?_
      refine W.det (.d (.v (.bool (decide ((20 : Int) < (s_.size : Int)))))) _ rfl ?_
      refine R.nil ?_
      refine seqK.n ?_
      refine A.condB rfl h (fun _ h => ?_) (fun _ h => ?_)
      · refine A.seq rfl ?_
        refine A.region ?_
        refine R.one rfl ?_
        refine W.det (.kb false) _ rfl ?_
        refine R.nil ?_
        refine seqK.n ?_
        refine A.ret ?_
        refine seqK.r ?_
        injection h with h
        subst h
        cases hG
        exact ⟨rfl, trivial⟩
      · refine A.skip ?_
        refine seqK.n ?_
        refine A.seq rfl ?_
        refine A.region ?_
        refine R.one rfl ?_
        refine W.det (.d (.v (.string s_))) _ rfl ?_
        refine R.one rfl ?_
        refine bindK h fun y9 hy9 h => ?_
        refine W.call rfl (lex_span_fn (is_F := 55) (is_C := []) rfl (fun _ _ h => lex_Word_1_fn h) hy9) ?_
        refine W.det (.d (.v (.int .i64 y9))) _ rfl ?_
        refine R.one rfl ?_
        refine W.det (.d (.v (.string s_))) _ rfl ?_
        refine R.one rfl ?_
        refine W.det (.d (.v (.int .i64 (s_.size : Int)))) _ rfl ?_
        refine R.one rfl ?_
        refine W.det (.d (.v (.bool (y9 == (s_.size : Int))))) _ rfl ?_
        refine R.one rfl ?_
        refine W.det (.d (.v (.bool (y9 == (s_.size : Int))))) _ rfl ?_
        refine R.nil ?_
        refine seqK.n ?_
        refine A.ret ?_
        injection h with h
        subst h
        cases hG
        exact ⟨rfl, trivial⟩
noncomputable def slices_IndexFunc_string_string_L1 (s_ : (List ByteArray)) (f_ : (ByteArray → Option (Bool))) (s3 : Int) : Option ((Int) ⊕ ((Unit) ⊕ (Int))) :=
  (bif (decide (s3 < (s_.length : Int))) then
    (getI s_ s3).bind fun x23 =>
    (f_ x23).bind fun y24 =>
    (bif y24 then
      some (.inr (.inr s3))
    else
      some (.inl (IntKind.i64.wrap (s3 + (1 : Int)))))
  else
    some (.inr (.inl ())))
noncomputable def slices_IndexFunc_string_string (s_ : (List ByteArray)) (f_ : (ByteArray → Option (Bool))) : Option (Int) :=
  (seqF (A := Unit) (
    loopF (slices_IndexFunc_string_string_L1 s_ f_) (0 : Int))
  fun s2 =>
    some (-1 : Int))
theorem slices_IndexFunc_string_string_fn {s_ : (List ByteArray)} {f_ : (ByteArray → Option (Bool))} {f_F : FuncId} {f_C : List AV} (f_H : f_C.all capd = true) (f_P : ∀ (q0 : ByteArray) (z : Bool), f_ q0 = some z → Fn Try.prog f_F ([.d (.v (.string q0))] ++ f_C) (.d (.v (.bool z)))) {r : Int} (h : slices_IndexFunc_string_string s_ f_ = some r) : Fn Try.prog 57 [.d (.fz (List.map encS s_)), .fn f_F f_C] (.d (.v (.int .i64 r))) := by
  refine Fn.of_AW (F := FnX Try.prog) (base := 0) (js := [7]) mixed tok noeqs (fun _ _ _ h => h) Try.call57 Try.func57 rfl Try.ntmps57 (by rw [Try.results57]) (by simp) ?_
  have hG : (fun x => x = r) r := rfl
  unfold slices_IndexFunc_string_string at h
  refine A.seq rfl ?_
  refine A.region ?_
  refine R.one rfl ?_
  refine W.det (.d (.v (.int .i64 (0 : Int)))) _ rfl ?_
  refine R.nil ?_
  refine seqK.n ?_
  refine A.join (fun (s2 : Unit) => []) (fun s2 => []) _ h hG rfl ?_ ?_
  · intro J f h hG
    refine A.seq rfl ?_
    refine A.region ?_
    refine R.one rfl ?_
    refine W.det (.d (.fz (List.map encS s_))) _ rfl ?_
    refine R.one rfl ?_
    refine W.len rfl ?_
    refine R.one rfl ?_
    refine W.det (.d (.v (.int .i64 (0 : Int)))) _ rfl ?_
    refine R.nil ?_
    refine seqK.n ?_
    refine A.block ?_
    refine A.loop (fun (s3 : Int) => [(0, .d (.fz (List.map encS s_))), (1, .fn f_F f_C), (7, .d (.v (.int .i64 (s_.length : Int)))), (8, .d (.v (.int .i64 s3)))]) (fun s3 => []) _ h hG (Enters.of [] [] _ rfl rfl (chkE.c rfl rfl (chkE.g f_H rfl (chkE.c rfl rfl (chkE.c rfl rfl trivial)))) trivial) ?_
    intro J s3 f h hG
    unfold slices_IndexFunc_string_string_L1 at h
    refine A.seq rfl ?_
    refine A.region ?_
    refine R.one rfl ?_
    refine W.det (.d (.v (.bool (decide (s3 < (s_.length : Int)))))) _ rfl ?_
    refine R.nil ?_
    refine seqK.n ?_
    refine A.seq rfl ?_
    refine A.condB rfl h (fun _ h => ?_) (fun _ h => ?_)
    · refine A.skip ?_
      refine seqK.n ?_
      refine A.seq rfl ?_
      refine A.block ?_
      refine A.seq rfl ?_
      refine A.region ?_
      refine R.one rfl ?_
      refine W.det (.d (.v (.int .i64 s3))) _ rfl ?_
      refine R.one rfl ?_
      refine W.det (.d (.v (.int .i64 s3))) _ rfl ?_
      refine R.nil ?_
      refine seqK.n ?_
      refine A.seq rfl ?_
      refine A.region ?_
      refine R.one rfl ?_
      refine W.det (.fn f_F f_C) _ rfl ?_
      refine R.one rfl ?_
      refine W.det (.d (.fz (List.map encS s_))) _ rfl ?_
      refine R.one rfl ?_
      refine W.det (.d (.v (.int .i64 s3))) _ rfl ?_
      refine R.one rfl ?_
      refine bindK h fun x23 hx23 h => ?_
      refine W.chk rfl (elemB hx23) ?_
      refine W.elem rfl (elemG hx23) ?_
      refine W.chk rfl rfl ?_
      refine W.det (.fp [.v (.string x23)]) _ rfl ?_
      refine R.one rfl ?_
      refine W.det (.d (.v (.string x23))) _ rfl ?_
      refine R.one rfl ?_
      refine bindK h fun y24 hy24 h => ?_
      refine callG rfl rfl rfl f_H ?_
      refine W.call rfl (f_P _ _ hy24) ?_
      refine W.det (.d (.v (.bool y24))) _ rfl ?_
      refine R.nil ?_
      refine seqK.n ?_
      refine A.condB rfl h (fun _ h => ?_) (fun _ h => ?_)
      · refine A.seq rfl ?_
        refine A.region ?_
        refine R.one rfl ?_
        refine W.det (.d (.v (.int .i64 s3))) _ rfl ?_
        refine R.one rfl ?_
        refine W.det (.d (.v (.int .i64 s3))) _ rfl ?_
        refine R.nil ?_
        refine seqK.n ?_
        refine A.ret ?_
        refine blockK.r ?_
        refine seqK.r ?_
        refine headK.r ?_
        refine blockK.r ?_
        refine headK.r ?_
        injection h with h
        subst h
        cases hG
        exact ⟨rfl, trivial⟩
      · refine A.skip ?_
        refine blockK.n ?_
        refine seqK.n ?_
        refine A.region ?_
        refine R.one rfl ?_
        refine W.det (.d (.v (.int .i64 (IntKind.i64.wrap (s3 + (1 : Int)))))) _ rfl ?_
        refine R.one rfl ?_
        refine W.det (.d (.v (.int .i64 (IntKind.i64.wrap (s3 + (1 : Int)))))) _ rfl ?_
        refine R.nil ?_
        injection h with h
        subst h
        exact headK.n hG (Enters.of [] [] _ rfl rfl (chkE.c rfl rfl (chkE.g f_H rfl (chkE.c rfl rfl (chkE.c rfl rfl trivial)))) trivial)
    · refine A.exit ?_
      refine seqK.e ?_
      refine headK.e ?_
      refine blockK.x ?_
      injection h with h
      subst h
      exact headK.n hG (Enters.of [] [] _ rfl rfl trivial trivial)
  · intro s2 r2 h hG
    refine A.seq rfl ?_
    refine A.region ?_
    refine R.one rfl ?_
    refine W.det (.d (.v (.int .i64 (-1 : Int)))) _ rfl ?_
    refine R.nil ?_
    refine seqK.n ?_
    refine A.ret ?_
    injection h with h
    subst h
    cases hG
    exact ⟨rfl, trivial⟩
noncomputable def slices_ContainsFunc_string_string (s_ : (List ByteArray)) (f_ : (ByteArray → Option (Bool))) : Option (Bool) :=
  (slices_IndexFunc_string_string s_ f_).bind fun y1 =>
  some (decide ((0 : Int) ≤ y1))
theorem slices_ContainsFunc_string_string_fn {s_ : (List ByteArray)} {f_ : (ByteArray → Option (Bool))} {f_F : FuncId} {f_C : List AV} (f_H : f_C.all capd = true) (f_P : ∀ (q0 : ByteArray) (z : Bool), f_ q0 = some z → Fn Try.prog f_F ([.d (.v (.string q0))] ++ f_C) (.d (.v (.bool z)))) {r : Bool} (h : slices_ContainsFunc_string_string s_ f_ = some r) : Fn Try.prog 45 [.d (.fz (List.map encS s_)), .fn f_F f_C] (.d (.v (.bool r))) := by
  refine Fn.of_AW (F := FnX Try.prog) (base := 0) (js := []) mixed tok noeqs (fun _ _ _ h => h) Try.call45 Try.func45 rfl Try.ntmps45 (by rw [Try.results45]) (by simp) ?_
  have hG : (fun x => x = r) r := rfl
  unfold slices_ContainsFunc_string_string at h
  refine A.seq rfl ?_
  refine A.region ?_
  refine R.one rfl ?_
  refine W.det (.kb false) _ rfl ?_
  refine R.nil ?_
  refine seqK.n ?_
  refine A.seq rfl ?_
  refine A.region ?_
  refine R.one rfl ?_
  refine W.det (.d (.fz (List.map encS s_))) _ rfl ?_
  refine R.one rfl ?_
  refine W.det (.fn f_F f_C) _ rfl ?_
  refine R.one rfl ?_
  refine bindK h fun y1 hy1 h => ?_
  refine callZ [some (.d (.fz (List.map encS s_)))] rfl rfl rfl rfl f_H ?_
  refine W.call rfl (slices_IndexFunc_string_string_fn (f_F := f_F) (f_C := f_C) f_H f_P hy1) ?_
  refine W.det (.d (.v (.int .i64 y1))) _ rfl ?_
  refine R.one rfl ?_
  refine W.det (.d (.v (.bool (decide ((0 : Int) ≤ y1))))) _ rfl ?_
  refine R.one rfl ?_
  refine W.det (.d (.v (.bool (decide ((0 : Int) ≤ y1))))) _ rfl ?_
  refine R.nil ?_
  refine seqK.n ?_
  refine A.ret ?_
  injection h with h
  subst h
  cases hG
  exact ⟨rfl, trivial⟩
noncomputable def syntax_Right_1 (s_ : ByteArray) : Option (Bool) :=
  (lex_Word s_).bind fun y1 =>
  some (!y1)
theorem syntax_Right_1_fn {s_ : ByteArray} {r : Bool} (h : syntax_Right_1 s_ = some r) : Fn Try.prog 46 [.d (.v (.string s_))] (.d (.v (.bool r))) := by
  refine Fn.of_AW (F := FnX Try.prog) (base := 0) (js := []) mixed tok noeqs (fun _ _ _ h => h) Try.call46 Try.func46 rfl Try.ntmps46 (by rw [Try.results46]) (by simp) ?_
  have hG : (fun x => x = r) r := rfl
  unfold syntax_Right_1 at h
  refine A.seq rfl ?_
  refine A.region ?_
  refine R.one rfl ?_
  refine W.det (.kb false) _ rfl ?_
  refine R.nil ?_
  refine seqK.n ?_
  refine A.seq rfl ?_
  refine A.region ?_
  refine R.one rfl ?_
  refine W.det (.d (.v (.string s_))) _ rfl ?_
  refine R.one rfl ?_
  refine bindK h fun y1 hy1 h => ?_
  refine W.call rfl (lex_Word_fn hy1) ?_
  refine W.det (.d (.v (.bool y1))) _ rfl ?_
  refine R.one rfl ?_
  refine W.det (.d (.v (.bool (!y1)))) _ rfl ?_
  refine R.one rfl ?_
  refine W.det (.d (.v (.bool (!y1)))) _ rfl ?_
  refine R.nil ?_
  refine seqK.n ?_
  refine A.ret ?_
  injection h with h
  subst h
  cases hG
  exact ⟨rfl, trivial⟩
structure Arr2_Int where
  a0 : Int
  a1 : Int
def Arr2_Int.enc (x : Arr2_Int) : List D := [.v (.int .i64 x.a0), .v (.int .i64 x.a1)]
noncomputable def syntax_Right_L1 (p_ : api_Profile) (s3 : Int) : Option ((Int) ⊕ ((Unit) ⊕ (Bool))) :=
  (bif (decide (s3 < ((9 : Nat) : Int))) then
    (chkO (decide (0 ≤ s3) && decide (s3 < (([p_.Within, p_.Size, p_.Parts, p_.Files, p_.Bytes, p_.Rate, p_.Down, p_.Window, p_.Keep].length : Nat) : Int)))).bind fun _ =>
    (getI [p_.Within, p_.Size, p_.Parts, p_.Files, p_.Bytes, p_.Rate, p_.Down, p_.Window, p_.Keep] s3).bind fun x24 =>
    (bif (decide (x24 < (0 : Int))) then
      some (.inr (.inr false))
    else
      (bif (decide ((1073741824 : Int) < x24)) then
        some (.inr (.inr false))
      else
        some (.inl (IntKind.i64.wrap (s3 + (1 : Int))))))
  else
    some (.inr (.inl ())))
noncomputable def syntax_Right_L2 (p_ : api_Profile) (s6 : Int) : Option ((Int) ⊕ ((Unit) ⊕ (Bool))) :=
  (bif (decide (s6 < ((6 : Nat) : Int))) then
    (chkO (decide (0 ≤ s6) && decide (s6 < (([(Arr2_Int.mk p_.Delete (3 : Int)), (Arr2_Int.mk p_.Thread (3 : Int)), (Arr2_Int.mk p_.Join (3 : Int)), (Arr2_Int.mk p_.History (2 : Int)), (Arr2_Int.mk p_.Remove (2 : Int)), (Arr2_Int.mk p_.Level (5 : Int))].length : Nat) : Int)))).bind fun _ =>
    (getI [(Arr2_Int.mk p_.Delete (3 : Int)), (Arr2_Int.mk p_.Thread (3 : Int)), (Arr2_Int.mk p_.Join (3 : Int)), (Arr2_Int.mk p_.History (2 : Int)), (Arr2_Int.mk p_.Remove (2 : Int)), (Arr2_Int.mk p_.Level (5 : Int))] s6).bind fun x48 =>
    (bif (decide (x48.a0 < (0 : Int))) then
      some (.inr (.inr false))
    else
      (bif (decide (x48.a1 ≤ x48.a0)) then
        some (.inr (.inr false))
      else
        some (.inl (IntKind.i64.wrap (s6 + (1 : Int))))))
  else
    some (.inr (.inl ())))
noncomputable def syntax_Right (p_ : api_Profile) : Option (Bool) :=
  (seqF (A := Unit) (
    loopF (syntax_Right_L1 p_) (0 : Int))
  fun s2 =>
    (seqF (A := Unit) (
      loopF (syntax_Right_L2 p_) (0 : Int))
    fun s5 =>
      (seqF (A := Bool) (
        (lex_Word p_.Name).bind fun y52 =>
        (bif (!y52) then
          some (.inl (!y52))
        else
          (bif (p_.Edit != (0 : Int)) then
            (bif (p_.Edit != (2 : Int)) then
              some (.inl (p_.Edit != (2 : Int)))
            else
              (bif (p_.Edit == (0 : Int)) then
                some (.inl (decide ((0 : Int) < p_.Within)))
              else
                some (.inl false)))
          else
            (bif (p_.Edit == (0 : Int)) then
              some (.inl (decide ((0 : Int) < p_.Within)))
            else
              some (.inl false)))))
      fun s8 =>
        (bif s8 then
          some false
        else
          (bif (p_.Files == (0 : Int)) then
            (bif (p_.Bytes == (0 : Int)) then
              some ((p_.Types.length : Int) == (0 : Int))
            else
              some false)
          else
            (bif (decide ((1 : Int) ≤ (p_.Types.length : Int))) then
              (bif (decide ((p_.Types.length : Int) ≤ (20 : Int))) then
                (slices_ContainsFunc_string_string p_.Types syntax_Right_1).bind fun y53 =>
                some (!y53)
              else
                some false)
            else
              some false))))))
theorem syntax_Right_fn {p_ : api_Profile} {r : Bool} (h : syntax_Right p_ = some r) : Fn Try.prog 29 [.agg [.d (.v (.string p_.Name)), .d (.v (.int .i64 p_.Edit)), .d (.v (.int .i64 p_.Within)), .d (.v (.int .i64 p_.Delete)), .d (.v (.bool p_.React)), .d (.v (.int .i64 p_.Thread)), .d (.v (.bool p_.Quote)), .d (.v (.bool p_.Mention)), .d (.v (.int .i64 p_.Size)), .d (.v (.int .i64 p_.Parts)), .d (.v (.int .i64 p_.Files)), .d (.v (.int .i64 p_.Bytes)), .d (.fz (List.map encS p_.Types)), .d (.v (.int .i64 p_.Join)), .d (.v (.int .i64 p_.History)), .d (.v (.int .i64 p_.Remove)), .d (.v (.int .i64 p_.Level)), .d (.v (.bool p_.Batch)), .d (.v (.int .i64 p_.Rate)), .d (.v (.int .i64 p_.Down)), .d (.v (.int .i64 p_.Window)), .d (.v (.int .i64 p_.Keep))]] (.d (.v (.bool r))) := by
  refine Fn.of_AW (F := FnX Try.prog) (base := 0) (js := [7, 13, 16]) mixed tok noeqs (fun _ _ _ h => h) Try.call29 Try.func29 rfl Try.ntmps29 (by rw [Try.results29]) (by simp) ?_
  have hG : (fun x => x = r) r := rfl
  unfold syntax_Right at h
  refine A.seq rfl ?_
  refine A.region ?_
  refine R.one rfl ?_
  refine W.det (.lp 1 1 0) (Mem.add _ 1 (.box [.d (.v (.string p_.Name)), .d (.v (.int .i64 p_.Edit)), .d (.v (.int .i64 p_.Within)), .d (.v (.int .i64 p_.Delete)), .d (.v (.bool p_.React)), .d (.v (.int .i64 p_.Thread)), .d (.v (.bool p_.Quote)), .d (.v (.bool p_.Mention)), .d (.v (.int .i64 p_.Size)), .d (.v (.int .i64 p_.Parts)), .d (.v (.int .i64 p_.Files)), .d (.v (.int .i64 p_.Bytes)), .d (.fz (List.map encS p_.Types)), .d (.v (.int .i64 p_.Join)), .d (.v (.int .i64 p_.History)), .d (.v (.int .i64 p_.Remove)), .d (.v (.int .i64 p_.Level)), .d (.v (.bool p_.Batch)), .d (.v (.int .i64 p_.Rate)), .d (.v (.int .i64 p_.Down)), .d (.v (.int .i64 p_.Window)), .d (.v (.int .i64 p_.Keep))])) rfl ?_
  refine R.one rfl ?_
  refine W.det (.kb false) _ rfl ?_
  refine R.nil ?_
  refine seqK.n ?_
  refine A.join (fun (s2 : Unit) => [(1, .lp 900000 1 0)]) (fun s2 => [(900000, .box [.d (.v (.string p_.Name)), .d (.v (.int .i64 p_.Edit)), .d (.v (.int .i64 p_.Within)), .d (.v (.int .i64 p_.Delete)), .d (.v (.bool p_.React)), .d (.v (.int .i64 p_.Thread)), .d (.v (.bool p_.Quote)), .d (.v (.bool p_.Mention)), .d (.v (.int .i64 p_.Size)), .d (.v (.int .i64 p_.Parts)), .d (.v (.int .i64 p_.Files)), .d (.v (.int .i64 p_.Bytes)), .d (.fz (List.map encS p_.Types)), .d (.v (.int .i64 p_.Join)), .d (.v (.int .i64 p_.History)), .d (.v (.int .i64 p_.Remove)), .d (.v (.int .i64 p_.Level)), .d (.v (.bool p_.Batch)), .d (.v (.int .i64 p_.Rate)), .d (.v (.int .i64 p_.Down)), .d (.v (.int .i64 p_.Window)), .d (.v (.int .i64 p_.Keep))])]) _ h hG rfl ?_ ?_
  · intro J f h hG
    refine A.seq rfl ?_
    refine A.region ?_
    refine R.one rfl ?_
    refine W.det (.lp 1 1 2) _ rfl ?_
    refine R.one rfl ?_
    refine W.det (.d (.v (.int .i64 p_.Within))) _ rfl ?_
    refine R.one rfl ?_
    refine W.det (.lp 1 1 8) _ rfl ?_
    refine R.one rfl ?_
    refine W.det (.d (.v (.int .i64 p_.Size))) _ rfl ?_
    refine R.one rfl ?_
    refine W.det (.lp 1 1 9) _ rfl ?_
    refine R.one rfl ?_
    refine W.det (.d (.v (.int .i64 p_.Parts))) _ rfl ?_
    refine R.one rfl ?_
    refine W.det (.lp 1 1 10) _ rfl ?_
    refine R.one rfl ?_
    refine W.det (.d (.v (.int .i64 p_.Files))) _ rfl ?_
    refine R.one rfl ?_
    refine W.det (.lp 1 1 11) _ rfl ?_
    refine R.one rfl ?_
    refine W.det (.d (.v (.int .i64 p_.Bytes))) _ rfl ?_
    refine R.one rfl ?_
    refine W.det (.lp 1 1 18) _ rfl ?_
    refine R.one rfl ?_
    refine W.det (.d (.v (.int .i64 p_.Rate))) _ rfl ?_
    refine R.one rfl ?_
    refine W.det (.lp 1 1 19) _ rfl ?_
    refine R.one rfl ?_
    refine W.det (.d (.v (.int .i64 p_.Down))) _ rfl ?_
    refine R.one rfl ?_
    refine W.det (.lp 1 1 20) _ rfl ?_
    refine R.one rfl ?_
    refine W.det (.d (.v (.int .i64 p_.Window))) _ rfl ?_
    refine R.one rfl ?_
    refine W.det (.lp 1 1 21) _ rfl ?_
    refine R.one rfl ?_
    refine W.det (.d (.v (.int .i64 p_.Keep))) _ rfl ?_
    refine R.one rfl ?_
    refine W.det (.row 25 1 9) (Mem.add _ 25 (.rows 1 (List.map (encI .i64) [p_.Within, p_.Size, p_.Parts, p_.Files, p_.Bytes, p_.Rate, p_.Down, p_.Window, p_.Keep]) false)) rfl ?_
    refine R.one rfl ?_
    refine W.det (.d (.v (.int .i64 ((9 : Nat) : Int)))) _ rfl ?_
    refine R.one rfl ?_
    refine W.det (.d (.v (.int .i64 (0 : Int)))) _ rfl ?_
    refine R.nil ?_
    refine seqK.n ?_
    refine A.block ?_
    refine A.loop (fun (s3 : Int) => [(1, .lp 900000 1 0), (25, .row 900001 1 [p_.Within, p_.Size, p_.Parts, p_.Files, p_.Bytes, p_.Rate, p_.Down, p_.Window, p_.Keep].length), (26, .d (.v (.int .i64 ((9 : Nat) : Int)))), (27, .d (.v (.int .i64 s3)))]) (fun s3 => [(900000, .box [.d (.v (.string p_.Name)), .d (.v (.int .i64 p_.Edit)), .d (.v (.int .i64 p_.Within)), .d (.v (.int .i64 p_.Delete)), .d (.v (.bool p_.React)), .d (.v (.int .i64 p_.Thread)), .d (.v (.bool p_.Quote)), .d (.v (.bool p_.Mention)), .d (.v (.int .i64 p_.Size)), .d (.v (.int .i64 p_.Parts)), .d (.v (.int .i64 p_.Files)), .d (.v (.int .i64 p_.Bytes)), .d (.fz (List.map encS p_.Types)), .d (.v (.int .i64 p_.Join)), .d (.v (.int .i64 p_.History)), .d (.v (.int .i64 p_.Remove)), .d (.v (.int .i64 p_.Level)), .d (.v (.bool p_.Batch)), .d (.v (.int .i64 p_.Rate)), .d (.v (.int .i64 p_.Down)), .d (.v (.int .i64 p_.Window)), .d (.v (.int .i64 p_.Keep))]), (900001, .rows 1 (List.map (encI .i64) [p_.Within, p_.Size, p_.Parts, p_.Files, p_.Bytes, p_.Rate, p_.Down, p_.Window, p_.Keep]) false)]) _ h hG (Enters.of [] [(900000, (1, 1)), (900001, (25, 1))] _ rfl rfl (chkE.c rfl rfl (chkE.c rfl rfl (chkE.c rfl rfl (chkE.c rfl rfl trivial)))) (chkM.c rfl rfl (chkM.c rfl rfl trivial))) ?_
    intro J s3 f h hG
    unfold syntax_Right_L1 at h
    refine A.seq rfl ?_
    refine A.region ?_
    refine R.one rfl ?_
    refine W.det (.d (.v (.bool (decide (s3 < ((9 : Nat) : Int)))))) _ rfl ?_
    refine R.nil ?_
    refine seqK.n ?_
    refine A.seq rfl ?_
    refine A.condB rfl h (fun _ h => ?_) (fun _ h => ?_)
    · refine A.skip ?_
      refine seqK.n ?_
      refine A.seq rfl ?_
      refine A.block ?_
      refine A.seq rfl ?_
      refine A.region ?_
      refine R.one rfl ?_
      refine chkK h fun g23 h => ?_
      refine W.chk rfl (by simpa using g23) ?_
      refine W.det (.rp 900001 1 s3.toNat 0) _ rfl ?_
      refine R.one rfl ?_
      refine bindK h fun x24 hx24 h => ?_
      refine W.elem rfl (elemG hx24) ?_
      refine W.det (.d (.v (.int .i64 x24))) _ rfl ?_
      refine R.one rfl ?_
      refine W.det (.d (.v (.int .i64 x24))) _ rfl ?_
      refine R.nil ?_
      refine seqK.n ?_
      refine A.seq rfl ?_
      refine A.region ?_
      refine R.one rfl ?_
      refine W.det (.d (.v (.int .i64 x24))) _ rfl ?_
      refine R.one rfl ?_
      refine W.det (.d (.v (.bool (decide (x24 < (0 : Int)))))) _ rfl ?_
      refine R.one rfl ?_
      refine W.det (.d (.v (.bool (decide (x24 < (0 : Int)))))) _ rfl ?_
      refine R.gF rfl rfl rfl h (fun _ h => ?_) (fun _ h => ?_)
      · refine R.skip rfl rfl rfl ?_
        refine R.one rfl ?_
        refine W.det (.kb true) _ rfl ?_
        refine R.nil ?_
        refine seqK.n ?_
        refine A.condT rfl ?_
        refine A.seq rfl ?_
        refine A.region ?_
        refine R.one rfl ?_
        refine W.det (.kb false) _ rfl ?_
        refine R.nil ?_
        refine seqK.n ?_
        refine A.ret ?_
        refine blockK.r ?_
        refine seqK.r ?_
        refine headK.r ?_
        refine blockK.r ?_
        refine headK.r ?_
        injection h with h
        subst h
        cases hG
        exact ⟨rfl, trivial⟩
      · refine W.det (.d (.v (.int .i64 x24))) _ rfl ?_
        refine R.run rfl rfl rfl ?_
        refine W.det (.d (.v (.bool (decide ((1073741824 : Int) < x24))))) _ rfl ?_
        refine R.one rfl ?_
        refine W.det (.d (.v (.bool (decide ((1073741824 : Int) < x24))))) _ rfl ?_
        refine R.nil ?_
        refine seqK.n ?_
        refine A.condB rfl h (fun _ h => ?_) (fun _ h => ?_)
        · refine A.seq rfl ?_
          refine A.region ?_
          refine R.one rfl ?_
          refine W.det (.kb false) _ rfl ?_
          refine R.nil ?_
          refine seqK.n ?_
          refine A.ret ?_
          refine blockK.r ?_
          refine seqK.r ?_
          refine headK.r ?_
          refine blockK.r ?_
          refine headK.r ?_
          injection h with h
          subst h
          cases hG
          exact ⟨rfl, trivial⟩
        · refine A.skip ?_
          refine blockK.n ?_
          refine seqK.n ?_
          refine A.region ?_
          refine R.one rfl ?_
          refine W.det (.d (.v (.int .i64 (IntKind.i64.wrap (s3 + (1 : Int)))))) _ rfl ?_
          refine R.one rfl ?_
          refine W.det (.d (.v (.int .i64 (IntKind.i64.wrap (s3 + (1 : Int)))))) _ rfl ?_
          refine R.nil ?_
          injection h with h
          subst h
          exact headK.n hG (Enters.of [] [(900000, (900000, 1)), (900001, (900001, 1))] _ rfl rfl (chkE.c rfl rfl (chkE.c rfl rfl (chkE.c rfl rfl (chkE.c rfl rfl trivial)))) (chkM.c rfl rfl (chkM.c rfl rfl trivial)))
    · refine A.exit ?_
      refine seqK.e ?_
      refine headK.e ?_
      refine blockK.x ?_
      injection h with h
      subst h
      exact headK.n hG (Enters.of [] [(900000, (900000, 1))] _ rfl rfl (chkE.c rfl rfl trivial) (chkM.c rfl rfl trivial))
  · intro s2 r2 h hG
    refine A.join (fun (s5 : Unit) => [(1, .lp 900000 1 0)]) (fun s5 => [(900000, .box [.d (.v (.string p_.Name)), .d (.v (.int .i64 p_.Edit)), .d (.v (.int .i64 p_.Within)), .d (.v (.int .i64 p_.Delete)), .d (.v (.bool p_.React)), .d (.v (.int .i64 p_.Thread)), .d (.v (.bool p_.Quote)), .d (.v (.bool p_.Mention)), .d (.v (.int .i64 p_.Size)), .d (.v (.int .i64 p_.Parts)), .d (.v (.int .i64 p_.Files)), .d (.v (.int .i64 p_.Bytes)), .d (.fz (List.map encS p_.Types)), .d (.v (.int .i64 p_.Join)), .d (.v (.int .i64 p_.History)), .d (.v (.int .i64 p_.Remove)), .d (.v (.int .i64 p_.Level)), .d (.v (.bool p_.Batch)), .d (.v (.int .i64 p_.Rate)), .d (.v (.int .i64 p_.Down)), .d (.v (.int .i64 p_.Window)), .d (.v (.int .i64 p_.Keep))])]) _ h hG rfl ?_ ?_
    · intro J f h hG
      refine A.seq rfl ?_
      refine A.region ?_
      refine R.one rfl ?_
      refine W.det (.lp 900000 1 3) _ rfl ?_
      refine R.one rfl ?_
      refine W.det (.d (.v (.int .i64 p_.Delete))) _ rfl ?_
      refine R.one rfl ?_
      refine W.det (.agg [.d (.v (.int .i64 p_.Delete)), .d (.v (.int .i64 (3 : Int)))]) _ rfl ?_
      refine R.one rfl ?_
      refine W.det (.lp 900000 1 5) _ rfl ?_
      refine R.one rfl ?_
      refine W.det (.d (.v (.int .i64 p_.Thread))) _ rfl ?_
      refine R.one rfl ?_
      refine W.det (.agg [.d (.v (.int .i64 p_.Thread)), .d (.v (.int .i64 (3 : Int)))]) _ rfl ?_
      refine R.one rfl ?_
      refine W.det (.lp 900000 1 13) _ rfl ?_
      refine R.one rfl ?_
      refine W.det (.d (.v (.int .i64 p_.Join))) _ rfl ?_
      refine R.one rfl ?_
      refine W.det (.agg [.d (.v (.int .i64 p_.Join)), .d (.v (.int .i64 (3 : Int)))]) _ rfl ?_
      refine R.one rfl ?_
      refine W.det (.lp 900000 1 14) _ rfl ?_
      refine R.one rfl ?_
      refine W.det (.d (.v (.int .i64 p_.History))) _ rfl ?_
      refine R.one rfl ?_
      refine W.det (.agg [.d (.v (.int .i64 p_.History)), .d (.v (.int .i64 (2 : Int)))]) _ rfl ?_
      refine R.one rfl ?_
      refine W.det (.lp 900000 1 15) _ rfl ?_
      refine R.one rfl ?_
      refine W.det (.d (.v (.int .i64 p_.Remove))) _ rfl ?_
      refine R.one rfl ?_
      refine W.det (.agg [.d (.v (.int .i64 p_.Remove)), .d (.v (.int .i64 (2 : Int)))]) _ rfl ?_
      refine R.one rfl ?_
      refine W.det (.lp 900000 1 16) _ rfl ?_
      refine R.one rfl ?_
      refine W.det (.d (.v (.int .i64 p_.Level))) _ rfl ?_
      refine R.one rfl ?_
      refine W.det (.agg [.d (.v (.int .i64 p_.Level)), .d (.v (.int .i64 (5 : Int)))]) _ rfl ?_
      refine R.one rfl ?_
      refine W.det (.row 56 2 6) (Mem.add _ 56 (.rows 2 (List.map Arr2_Int.enc [(Arr2_Int.mk p_.Delete (3 : Int)), (Arr2_Int.mk p_.Thread (3 : Int)), (Arr2_Int.mk p_.Join (3 : Int)), (Arr2_Int.mk p_.History (2 : Int)), (Arr2_Int.mk p_.Remove (2 : Int)), (Arr2_Int.mk p_.Level (5 : Int))]) false)) rfl ?_
      refine R.one rfl ?_
      refine W.det (.d (.v (.int .i64 ((6 : Nat) : Int)))) _ rfl ?_
      refine R.one rfl ?_
      refine W.det (.d (.v (.int .i64 (0 : Int)))) _ rfl ?_
      refine R.nil ?_
      refine seqK.n ?_
      refine A.block ?_
      refine A.loop (fun (s6 : Int) => [(1, .lp 900000 1 0), (56, .row 900001 1 [(Arr2_Int.mk p_.Delete (3 : Int)), (Arr2_Int.mk p_.Thread (3 : Int)), (Arr2_Int.mk p_.Join (3 : Int)), (Arr2_Int.mk p_.History (2 : Int)), (Arr2_Int.mk p_.Remove (2 : Int)), (Arr2_Int.mk p_.Level (5 : Int))].length), (57, .d (.v (.int .i64 ((6 : Nat) : Int)))), (58, .d (.v (.int .i64 s6)))]) (fun s6 => [(900000, .box [.d (.v (.string p_.Name)), .d (.v (.int .i64 p_.Edit)), .d (.v (.int .i64 p_.Within)), .d (.v (.int .i64 p_.Delete)), .d (.v (.bool p_.React)), .d (.v (.int .i64 p_.Thread)), .d (.v (.bool p_.Quote)), .d (.v (.bool p_.Mention)), .d (.v (.int .i64 p_.Size)), .d (.v (.int .i64 p_.Parts)), .d (.v (.int .i64 p_.Files)), .d (.v (.int .i64 p_.Bytes)), .d (.fz (List.map encS p_.Types)), .d (.v (.int .i64 p_.Join)), .d (.v (.int .i64 p_.History)), .d (.v (.int .i64 p_.Remove)), .d (.v (.int .i64 p_.Level)), .d (.v (.bool p_.Batch)), .d (.v (.int .i64 p_.Rate)), .d (.v (.int .i64 p_.Down)), .d (.v (.int .i64 p_.Window)), .d (.v (.int .i64 p_.Keep))]), (900001, .rows 2 (List.map Arr2_Int.enc [(Arr2_Int.mk p_.Delete (3 : Int)), (Arr2_Int.mk p_.Thread (3 : Int)), (Arr2_Int.mk p_.Join (3 : Int)), (Arr2_Int.mk p_.History (2 : Int)), (Arr2_Int.mk p_.Remove (2 : Int)), (Arr2_Int.mk p_.Level (5 : Int))]) false)]) _ h hG (Enters.of [] [(900000, (900000, 1)), (900001, (56, 2))] _ rfl rfl (chkE.c rfl rfl (chkE.c rfl rfl (chkE.c rfl rfl (chkE.c rfl rfl trivial)))) (chkM.c rfl rfl (chkM.c rfl rfl trivial))) ?_
      intro J s6 f h hG
      unfold syntax_Right_L2 at h
      refine A.seq rfl ?_
      refine A.region ?_
      refine R.one rfl ?_
      refine W.det (.d (.v (.bool (decide (s6 < ((6 : Nat) : Int)))))) _ rfl ?_
      refine R.nil ?_
      refine seqK.n ?_
      refine A.seq rfl ?_
      refine A.condB rfl h (fun _ h => ?_) (fun _ h => ?_)
      · refine A.skip ?_
        refine seqK.n ?_
        refine A.seq rfl ?_
        refine A.block ?_
        refine A.seq rfl ?_
        refine A.region ?_
        refine R.one rfl ?_
        refine chkK h fun g47 h => ?_
        refine W.chk rfl (by simpa using g47) ?_
        refine W.det (.rp 900001 1 s6.toNat 0) _ rfl ?_
        refine R.one rfl ?_
        refine bindK h fun x48 hx48 h => ?_
        refine W.elem rfl (elemG hx48) ?_
        refine W.det (.agg [.d (.v (.int .i64 x48.a0)), .d (.v (.int .i64 x48.a1))]) _ rfl ?_
        refine R.one rfl ?_
        refine W.det (.lp 6 2 0) (Mem.add _ 6 (.box [.d (.v (.int .i64 (0 : Int))), .d (.v (.int .i64 (0 : Int)))])) rfl ?_
        refine R.one rfl ?_
        refine W.det (.tup []) (Mem.set _ 6 2 (some (.box [.d (.v (.int .i64 x48.a0)), .d (.v (.int .i64 x48.a1))]))) rfl ?_
        refine R.nil ?_
        refine seqK.n ?_
        refine A.seq rfl ?_
        refine A.region ?_
        refine R.one rfl ?_
        refine W.chk rfl (by decide) ?_
        refine W.det (.lp 6 2 0) _ rfl ?_
        refine R.one rfl ?_
        refine W.det (.d (.v (.int .i64 x48.a0))) _ rfl ?_
        refine R.one rfl ?_
        refine W.det (.d (.v (.bool (decide (x48.a0 < (0 : Int)))))) _ rfl ?_
        refine R.one rfl ?_
        refine W.det (.d (.v (.bool (decide (x48.a0 < (0 : Int)))))) _ rfl ?_
        refine R.gF rfl rfl rfl h (fun _ h => ?_) (fun _ h => ?_)
        · refine R.skip rfl rfl rfl ?_
          refine R.skip rfl rfl rfl ?_
          refine R.skip rfl rfl rfl ?_
          refine R.skip rfl rfl rfl ?_
          refine R.one rfl ?_
          refine W.det (.kb true) _ rfl ?_
          refine R.nil ?_
          refine seqK.n ?_
          refine A.condT rfl ?_
          refine A.seq rfl ?_
          refine A.region ?_
          refine R.one rfl ?_
          refine W.det (.kb false) _ rfl ?_
          refine R.nil ?_
          refine seqK.n ?_
          refine A.ret ?_
          refine blockK.r ?_
          refine seqK.r ?_
          refine headK.r ?_
          refine blockK.r ?_
          refine headK.r ?_
          injection h with h
          subst h
          cases hG
          exact ⟨rfl, trivial⟩
        · refine W.chk rfl (by decide) ?_
          refine W.det (.lp 6 2 0) _ rfl ?_
          refine R.run rfl rfl rfl ?_
          refine W.det (.d (.v (.int .i64 x48.a0))) _ rfl ?_
          refine R.run rfl rfl rfl ?_
          refine W.chk rfl (by decide) ?_
          refine W.det (.lp 6 2 1) _ rfl ?_
          refine R.run rfl rfl rfl ?_
          refine W.det (.d (.v (.int .i64 x48.a1))) _ rfl ?_
          refine R.run rfl rfl rfl ?_
          refine W.det (.d (.v (.bool (decide (x48.a1 ≤ x48.a0))))) _ rfl ?_
          refine R.one rfl ?_
          refine W.det (.d (.v (.bool (decide (x48.a1 ≤ x48.a0))))) _ rfl ?_
          refine R.nil ?_
          refine seqK.n ?_
          refine A.condB rfl h (fun _ h => ?_) (fun _ h => ?_)
          · refine A.seq rfl ?_
            refine A.region ?_
            refine R.one rfl ?_
            refine W.det (.kb false) _ rfl ?_
            refine R.nil ?_
            refine seqK.n ?_
            refine A.ret ?_
            refine blockK.r ?_
            refine seqK.r ?_
            refine headK.r ?_
            refine blockK.r ?_
            refine headK.r ?_
            injection h with h
            subst h
            cases hG
            exact ⟨rfl, trivial⟩
          · refine A.skip ?_
            refine blockK.n ?_
            refine seqK.n ?_
            refine A.region ?_
            refine R.one rfl ?_
            refine W.det (.d (.v (.int .i64 (IntKind.i64.wrap (s6 + (1 : Int)))))) _ rfl ?_
            refine R.one rfl ?_
            refine W.det (.d (.v (.int .i64 (IntKind.i64.wrap (s6 + (1 : Int)))))) _ rfl ?_
            refine R.nil ?_
            injection h with h
            subst h
            exact headK.n hG (Enters.of [] [(900000, (900000, 1)), (900001, (900001, 1))] _ rfl rfl (chkE.c rfl rfl (chkE.c rfl rfl (chkE.c rfl rfl (chkE.c rfl rfl trivial)))) (chkM.c rfl rfl (chkM.c rfl rfl trivial)))
      · refine A.exit ?_
        refine seqK.e ?_
        refine headK.e ?_
        refine blockK.x ?_
        injection h with h
        subst h
        exact headK.n hG (Enters.of [] [(900000, (900000, 1))] _ rfl rfl (chkE.c rfl rfl trivial) (chkM.c rfl rfl trivial))
    · intro s5 r2 h hG
      refine A.seq rfl ?_
      refine A.block ?_
      refine A.join (fun (s8 : Bool) => [(1, .lp 900000 1 0), (73, .d (.v (.bool s8)))]) (fun s8 => [(900000, .box [.d (.v (.string p_.Name)), .d (.v (.int .i64 p_.Edit)), .d (.v (.int .i64 p_.Within)), .d (.v (.int .i64 p_.Delete)), .d (.v (.bool p_.React)), .d (.v (.int .i64 p_.Thread)), .d (.v (.bool p_.Quote)), .d (.v (.bool p_.Mention)), .d (.v (.int .i64 p_.Size)), .d (.v (.int .i64 p_.Parts)), .d (.v (.int .i64 p_.Files)), .d (.v (.int .i64 p_.Bytes)), .d (.fz (List.map encS p_.Types)), .d (.v (.int .i64 p_.Join)), .d (.v (.int .i64 p_.History)), .d (.v (.int .i64 p_.Remove)), .d (.v (.int .i64 p_.Level)), .d (.v (.bool p_.Batch)), .d (.v (.int .i64 p_.Rate)), .d (.v (.int .i64 p_.Down)), .d (.v (.int .i64 p_.Window)), .d (.v (.int .i64 p_.Keep))])]) _ h hG rfl ?_ ?_
      · intro J f h hG
        refine A.seq rfl ?_
        refine A.region ?_
        refine R.one rfl ?_
        refine W.det (.lp 900000 1 0) _ rfl ?_
        refine R.one rfl ?_
        refine W.det (.d (.v (.string p_.Name))) _ rfl ?_
        refine R.one rfl ?_
        refine bindK h fun y52 hy52 h => ?_
        refine W.call rfl (lex_Word_fn hy52) ?_
        refine W.det (.d (.v (.bool y52))) _ rfl ?_
        refine R.one rfl ?_
        refine W.det (.d (.v (.bool (!y52)))) _ rfl ?_
        refine R.one rfl ?_
        refine W.det (.d (.v (.bool (!y52)))) _ rfl ?_
        refine R.nil ?_
        refine seqK.n ?_
        refine A.condB rfl h (fun _ h => ?_) (fun _ h => ?_)
        · refine A.skip ?_
          injection h with h
          subst h
          exact headK.n hG (Enters.of [] [(900000, (900000, 1))] _ rfl rfl (chkE.c rfl rfl (chkE.c rfl rfl trivial)) (chkM.c rfl rfl trivial))
        · refine A.seq rfl ?_
          refine A.region ?_
          refine R.one rfl ?_
          refine W.det (.lp 900000 1 1) _ rfl ?_
          refine R.one rfl ?_
          refine W.det (.d (.v (.int .i64 p_.Edit))) _ rfl ?_
          refine R.one rfl ?_
          refine W.det (.d (.v (.bool (p_.Edit != (0 : Int))))) _ rfl ?_
          refine R.one rfl ?_
          refine W.det (.d (.v (.bool (p_.Edit != (0 : Int))))) _ rfl ?_
          refine R.gT rfl rfl rfl h (fun _ h => ?_) (fun _ h => ?_)
          · refine W.det (.lp 900000 1 1) _ rfl ?_
            refine R.run rfl rfl rfl ?_
            refine W.det (.d (.v (.int .i64 p_.Edit))) _ rfl ?_
            refine R.run rfl rfl rfl ?_
            refine W.det (.d (.v (.bool (p_.Edit != (2 : Int))))) _ rfl ?_
            refine R.one rfl ?_
            refine W.det (.d (.v (.bool (p_.Edit != (2 : Int))))) _ rfl ?_
            refine R.one rfl ?_
            refine W.det (.d (.v (.bool (p_.Edit != (2 : Int))))) _ rfl ?_
            refine R.nil ?_
            refine seqK.n ?_
            refine A.condB rfl h (fun _ h => ?_) (fun _ h => ?_)
            · refine A.skip ?_
              injection h with h
              subst h
              exact headK.n hG (Enters.of [] [(900000, (900000, 1))] _ rfl rfl (chkE.c rfl rfl (chkE.c rfl rfl trivial)) (chkM.c rfl rfl trivial))
            · refine A.region ?_
              refine R.one rfl ?_
              refine W.det (.lp 900000 1 1) _ rfl ?_
              refine R.one rfl ?_
              refine W.det (.d (.v (.int .i64 p_.Edit))) _ rfl ?_
              refine R.one rfl ?_
              refine W.det (.d (.v (.bool (p_.Edit == (0 : Int))))) _ rfl ?_
              refine R.one rfl ?_
              refine W.det (.d (.v (.bool (p_.Edit == (0 : Int))))) _ rfl ?_
              refine R.gT rfl rfl rfl h (fun _ h => ?_) (fun _ h => ?_)
              · refine W.det (.lp 900000 1 2) _ rfl ?_
                refine R.run rfl rfl rfl ?_
                refine W.det (.d (.v (.int .i64 p_.Within))) _ rfl ?_
                refine R.run rfl rfl rfl ?_
                refine W.det (.d (.v (.bool (decide ((0 : Int) < p_.Within))))) _ rfl ?_
                refine R.one rfl ?_
                refine W.det (.d (.v (.bool (decide ((0 : Int) < p_.Within))))) _ rfl ?_
                refine R.one rfl ?_
                refine W.det (.d (.v (.bool (decide ((0 : Int) < p_.Within))))) _ rfl ?_
                refine R.nil ?_
                injection h with h
                subst h
                exact headK.n hG (Enters.of [] [(900000, (900000, 1))] _ rfl rfl (chkE.c rfl rfl (chkE.c rfl rfl trivial)) (chkM.c rfl rfl trivial))
              · refine R.skip rfl rfl rfl ?_
                refine R.skip rfl rfl rfl ?_
                refine R.one rfl ?_
                refine W.det (.kb false) _ rfl ?_
                refine R.one rfl ?_
                refine W.det (.kb false) _ rfl ?_
                refine R.nil ?_
                injection h with h
                subst h
                exact headK.n hG (Enters.of [] [(900000, (900000, 1))] _ rfl rfl (chkE.c rfl rfl (chkE.c rfl rfl trivial)) (chkM.c rfl rfl trivial))
          · refine R.skip rfl rfl rfl ?_
            refine R.skip rfl rfl rfl ?_
            refine R.one rfl ?_
            refine W.det (.kb false) _ rfl ?_
            refine R.one rfl ?_
            refine W.det (.kb false) _ rfl ?_
            refine R.nil ?_
            refine seqK.n ?_
            refine A.condF rfl ?_
            refine A.region ?_
            refine R.one rfl ?_
            refine W.det (.lp 900000 1 1) _ rfl ?_
            refine R.one rfl ?_
            refine W.det (.d (.v (.int .i64 p_.Edit))) _ rfl ?_
            refine R.one rfl ?_
            refine W.det (.d (.v (.bool (p_.Edit == (0 : Int))))) _ rfl ?_
            refine R.one rfl ?_
            refine W.det (.d (.v (.bool (p_.Edit == (0 : Int))))) _ rfl ?_
            refine R.gT rfl rfl rfl h (fun _ h => ?_) (fun _ h => ?_)
            · refine W.det (.lp 900000 1 2) _ rfl ?_
              refine R.run rfl rfl rfl ?_
              refine W.det (.d (.v (.int .i64 p_.Within))) _ rfl ?_
              refine R.run rfl rfl rfl ?_
              refine W.det (.d (.v (.bool (decide ((0 : Int) < p_.Within))))) _ rfl ?_
              refine R.one rfl ?_
              refine W.det (.d (.v (.bool (decide ((0 : Int) < p_.Within))))) _ rfl ?_
              refine R.one rfl ?_
              refine W.det (.d (.v (.bool (decide ((0 : Int) < p_.Within))))) _ rfl ?_
              refine R.nil ?_
              injection h with h
              subst h
              exact headK.n hG (Enters.of [] [(900000, (900000, 1))] _ rfl rfl (chkE.c rfl rfl (chkE.c rfl rfl trivial)) (chkM.c rfl rfl trivial))
            · refine R.skip rfl rfl rfl ?_
              refine R.skip rfl rfl rfl ?_
              refine R.one rfl ?_
              refine W.det (.kb false) _ rfl ?_
              refine R.one rfl ?_
              refine W.det (.kb false) _ rfl ?_
              refine R.nil ?_
              injection h with h
              subst h
              exact headK.n hG (Enters.of [] [(900000, (900000, 1))] _ rfl rfl (chkE.c rfl rfl (chkE.c rfl rfl trivial)) (chkM.c rfl rfl trivial))
      · intro s8 r2 h hG
        refine A.condB rfl h (fun _ h => ?_) (fun _ h => ?_)
        · refine A.seq rfl ?_
          refine A.region ?_
          refine R.one rfl ?_
          refine W.det (.kb false) _ rfl ?_
          refine R.nil ?_
          refine seqK.n ?_
          refine A.ret ?_
          refine blockK.r ?_
          refine seqK.r ?_
          injection h with h
          subst h
          cases hG
          exact ⟨rfl, trivial⟩
        · refine A.seq rfl ?_
          refine A.region ?_
          refine R.one rfl ?_
          refine W.det (.lp 900000 1 10) _ rfl ?_
          refine R.one rfl ?_
          refine W.det (.d (.v (.int .i64 p_.Files))) _ rfl ?_
          refine R.one rfl ?_
          refine W.det (.d (.v (.bool (p_.Files == (0 : Int))))) _ rfl ?_
          refine R.one rfl ?_
          refine W.det (.d (.v (.bool (p_.Files == (0 : Int))))) _ rfl ?_
          refine R.nil ?_
          refine seqK.n ?_
          refine A.condB rfl h (fun _ h => ?_) (fun _ h => ?_)
          · refine A.seq rfl ?_
            refine A.region ?_
            refine R.one rfl ?_
            refine W.det (.lp 900000 1 11) _ rfl ?_
            refine R.one rfl ?_
            refine W.det (.d (.v (.int .i64 p_.Bytes))) _ rfl ?_
            refine R.one rfl ?_
            refine W.det (.d (.v (.bool (p_.Bytes == (0 : Int))))) _ rfl ?_
            refine R.one rfl ?_
            refine W.det (.d (.v (.bool (p_.Bytes == (0 : Int))))) _ rfl ?_
            refine R.gT rfl rfl rfl h (fun _ h => ?_) (fun _ h => ?_)
            · refine W.det (.lp 900000 1 12) _ rfl ?_
              refine R.run rfl rfl rfl ?_
              refine W.det (.d (.fz (List.map encS p_.Types))) _ rfl ?_
              refine R.run rfl rfl rfl ?_
              refine W.len rfl ?_
              refine R.run rfl rfl rfl ?_
              refine W.det (.d (.v (.bool ((p_.Types.length : Int) == (0 : Int))))) _ rfl ?_
              refine R.one rfl ?_
              refine W.det (.d (.v (.bool ((p_.Types.length : Int) == (0 : Int))))) _ rfl ?_
              refine R.one rfl ?_
              refine W.det (.d (.v (.bool ((p_.Types.length : Int) == (0 : Int))))) _ rfl ?_
              refine R.nil ?_
              refine seqK.n ?_
              refine A.ret ?_
              refine blockK.r ?_
              refine seqK.r ?_
              injection h with h
              subst h
              cases hG
              exact ⟨rfl, trivial⟩
            · refine R.skip rfl rfl rfl ?_
              refine R.skip rfl rfl rfl ?_
              refine R.skip rfl rfl rfl ?_
              refine R.one rfl ?_
              refine W.det (.kb false) _ rfl ?_
              refine R.one rfl ?_
              refine W.det (.kb false) _ rfl ?_
              refine R.nil ?_
              refine seqK.n ?_
              refine A.ret ?_
              refine blockK.r ?_
              refine seqK.r ?_
              injection h with h
              subst h
              cases hG
              exact ⟨rfl, trivial⟩
          · refine A.skip ?_
            refine blockK.n ?_
            refine seqK.n ?_
            refine A.seq rfl ?_
            refine A.region ?_
            refine R.one rfl ?_
            refine W.det (.lp 900000 1 12) _ rfl ?_
            refine R.one rfl ?_
            refine W.det (.d (.fz (List.map encS p_.Types))) _ rfl ?_
            refine R.one rfl ?_
            refine W.len rfl ?_
            refine R.one rfl ?_
            refine W.det (.d (.v (.bool (decide ((1 : Int) ≤ (p_.Types.length : Int)))))) _ rfl ?_
            refine R.one rfl ?_
            refine W.det (.d (.v (.bool (decide ((1 : Int) ≤ (p_.Types.length : Int)))))) _ rfl ?_
            refine R.gT rfl rfl rfl h (fun _ h => ?_) (fun _ h => ?_)
            · refine W.det (.lp 900000 1 12) _ rfl ?_
              refine R.run rfl rfl rfl ?_
              refine W.det (.d (.fz (List.map encS p_.Types))) _ rfl ?_
              refine R.run rfl rfl rfl ?_
              refine W.len rfl ?_
              refine R.run rfl rfl rfl ?_
              refine W.det (.d (.v (.bool (decide ((p_.Types.length : Int) ≤ (20 : Int)))))) _ rfl ?_
              refine R.one rfl ?_
              refine W.det (.d (.v (.bool (decide ((p_.Types.length : Int) ≤ (20 : Int)))))) _ rfl ?_
              refine R.one rfl ?_
              refine W.det (.d (.v (.bool (decide ((p_.Types.length : Int) ≤ (20 : Int)))))) _ rfl ?_
              refine R.gT rfl rfl rfl h (fun _ h => ?_) (fun _ h => ?_)
              · refine W.det (.lp 900000 1 12) _ rfl ?_
                refine R.run rfl rfl rfl ?_
                refine W.det (.d (.fz (List.map encS p_.Types))) _ rfl ?_
                refine R.run rfl rfl rfl ?_
                refine bindK h fun y53 hy53 h => ?_
                refine W.call rfl (slices_ContainsFunc_string_string_fn (f_F := 46) (f_C := []) rfl (fun _ _ h => syntax_Right_1_fn h) hy53) ?_
                refine W.det (.d (.v (.bool y53))) _ rfl ?_
                refine R.run rfl rfl rfl ?_
                refine W.det (.d (.v (.bool (!y53)))) _ rfl ?_
                refine R.one rfl ?_
                refine W.det (.d (.v (.bool (!y53)))) _ rfl ?_
                refine R.one rfl ?_
                refine W.det (.d (.v (.bool (!y53)))) _ rfl ?_
                refine R.nil ?_
                refine seqK.n ?_
                refine A.ret ?_
                injection h with h
                subst h
                cases hG
                exact ⟨rfl, trivial⟩
              · refine R.skip rfl rfl rfl ?_
                refine R.skip rfl rfl rfl ?_
                refine R.skip rfl rfl rfl ?_
                refine R.one rfl ?_
                refine W.det (.kb false) _ rfl ?_
                refine R.one rfl ?_
                refine W.det (.kb false) _ rfl ?_
                refine R.nil ?_
                refine seqK.n ?_
                refine A.ret ?_
                injection h with h
                subst h
                cases hG
                exact ⟨rfl, trivial⟩
            · refine R.skip rfl rfl rfl ?_
              refine R.skip rfl rfl rfl ?_
              refine R.skip rfl rfl rfl ?_
              refine R.one rfl ?_
              refine W.det (.kb false) _ rfl ?_
              refine R.one rfl ?_
              refine W.det (.kb false) _ rfl ?_
              refine R.skip rfl rfl rfl ?_
              refine R.skip rfl rfl rfl ?_
              refine R.skip rfl rfl rfl ?_
              refine R.skip rfl rfl rfl ?_
              refine R.one rfl ?_
              refine W.det (.kb false) _ rfl ?_
              refine R.one rfl ?_
              refine W.det (.kb false) _ rfl ?_
              refine R.nil ?_
              refine seqK.n ?_
              refine A.ret ?_
              injection h with h
              subst h
              cases hG
              exact ⟨rfl, trivial⟩
noncomputable def profile_within (n_ : Int) (from_ : Int) (to_ : Int) : Option (Bool) :=
  (bif (decide (from_ ≤ n_)) then
    some (decide (n_ ≤ to_))
  else
    some false)
theorem profile_within_fn {n_ : Int} {from_ : Int} {to_ : Int} {r : Bool} (h : profile_within n_ from_ to_ = some r) : Fn Try.prog 30 [.d (.v (.int .i64 n_)), .d (.v (.int .i64 from_)), .d (.v (.int .i64 to_))] (.d (.v (.bool r))) := by
  refine Fn.of_AW (F := FnX Try.prog) (base := 0) (js := []) mixed tok noeqs (fun _ _ _ h => h) Try.call30 Try.func30 rfl Try.ntmps30 (by rw [Try.results30]) (by simp) ?_
  have hG : (fun x => x = r) r := rfl
  unfold profile_within at h
  refine A.seq rfl ?_
  refine A.region ?_
  refine R.one rfl ?_
  refine W.det (.kb false) _ rfl ?_
  refine R.nil ?_
  refine seqK.n ?_
  refine A.seq rfl ?_
  refine A.region ?_
  refine R.one rfl ?_
  refine W.det (.d (.v (.int .i64 n_))) _ rfl ?_
  refine R.one rfl ?_
  refine W.det (.d (.v (.int .i64 from_))) _ rfl ?_
  refine R.one rfl ?_
  refine W.det (.d (.v (.bool (decide (from_ ≤ n_))))) _ rfl ?_
  refine R.one rfl ?_
  refine W.det (.d (.v (.bool (decide (from_ ≤ n_))))) _ rfl ?_
  refine R.gT rfl rfl rfl h (fun _ h => ?_) (fun _ h => ?_)
  · refine W.det (.d (.v (.int .i64 n_))) _ rfl ?_
    refine R.run rfl rfl rfl ?_
    refine W.det (.d (.v (.int .i64 to_))) _ rfl ?_
    refine R.run rfl rfl rfl ?_
    refine W.det (.d (.v (.bool (decide (n_ ≤ to_))))) _ rfl ?_
    refine R.one rfl ?_
    refine W.det (.d (.v (.bool (decide (n_ ≤ to_))))) _ rfl ?_
    refine R.one rfl ?_
    refine W.det (.d (.v (.bool (decide (n_ ≤ to_))))) _ rfl ?_
    refine R.nil ?_
    refine seqK.n ?_
    refine A.ret ?_
    injection h with h
    subst h
    cases hG
    exact ⟨rfl, trivial⟩
  · refine R.skip rfl rfl rfl ?_
    refine R.skip rfl rfl rfl ?_
    refine R.one rfl ?_
    refine W.det (.kb false) _ rfl ?_
    refine R.one rfl ?_
    refine W.det (.kb false) _ rfl ?_
    refine R.nil ?_
    refine seqK.n ?_
    refine A.ret ?_
    injection h with h
    subst h
    cases hG
    exact ⟨rfl, trivial⟩
noncomputable def profile_together (p_ : api_Profile) : Option (Bool) :=
  (bif ((p_.Files == (0 : Int)) == (p_.Bytes == (0 : Int))) then
    some ((p_.Files == (0 : Int)) == ((p_.Types.length : Int) == (0 : Int)))
  else
    some false)
theorem profile_together_fn {p_ : api_Profile} {r : Bool} (h : profile_together p_ = some r) : Fn Try.prog 31 [.agg [.d (.v (.string p_.Name)), .d (.v (.int .i64 p_.Edit)), .d (.v (.int .i64 p_.Within)), .d (.v (.int .i64 p_.Delete)), .d (.v (.bool p_.React)), .d (.v (.int .i64 p_.Thread)), .d (.v (.bool p_.Quote)), .d (.v (.bool p_.Mention)), .d (.v (.int .i64 p_.Size)), .d (.v (.int .i64 p_.Parts)), .d (.v (.int .i64 p_.Files)), .d (.v (.int .i64 p_.Bytes)), .d (.fz (List.map encS p_.Types)), .d (.v (.int .i64 p_.Join)), .d (.v (.int .i64 p_.History)), .d (.v (.int .i64 p_.Remove)), .d (.v (.int .i64 p_.Level)), .d (.v (.bool p_.Batch)), .d (.v (.int .i64 p_.Rate)), .d (.v (.int .i64 p_.Down)), .d (.v (.int .i64 p_.Window)), .d (.v (.int .i64 p_.Keep))]] (.d (.v (.bool r))) := by
  refine Fn.of_AW (F := FnX Try.prog) (base := 0) (js := []) mixed tok noeqs (fun _ _ _ h => h) Try.call31 Try.func31 rfl Try.ntmps31 (by rw [Try.results31]) (by simp) ?_
  have hG : (fun x => x = r) r := rfl
  unfold profile_together at h
  refine A.seq rfl ?_
  refine A.region ?_
  refine R.one rfl ?_
  refine W.det (.lp 1 1 0) (Mem.add _ 1 (.box [.d (.v (.string p_.Name)), .d (.v (.int .i64 p_.Edit)), .d (.v (.int .i64 p_.Within)), .d (.v (.int .i64 p_.Delete)), .d (.v (.bool p_.React)), .d (.v (.int .i64 p_.Thread)), .d (.v (.bool p_.Quote)), .d (.v (.bool p_.Mention)), .d (.v (.int .i64 p_.Size)), .d (.v (.int .i64 p_.Parts)), .d (.v (.int .i64 p_.Files)), .d (.v (.int .i64 p_.Bytes)), .d (.fz (List.map encS p_.Types)), .d (.v (.int .i64 p_.Join)), .d (.v (.int .i64 p_.History)), .d (.v (.int .i64 p_.Remove)), .d (.v (.int .i64 p_.Level)), .d (.v (.bool p_.Batch)), .d (.v (.int .i64 p_.Rate)), .d (.v (.int .i64 p_.Down)), .d (.v (.int .i64 p_.Window)), .d (.v (.int .i64 p_.Keep))])) rfl ?_
  refine R.one rfl ?_
  refine W.det (.kb false) _ rfl ?_
  refine R.nil ?_
  refine seqK.n ?_
  refine A.seq rfl ?_
  refine A.region ?_
  refine R.one rfl ?_
  refine W.det (.lp 1 1 10) _ rfl ?_
  refine R.one rfl ?_
  refine W.det (.d (.v (.int .i64 p_.Files))) _ rfl ?_
  refine R.one rfl ?_
  refine W.det (.d (.v (.bool (p_.Files == (0 : Int))))) _ rfl ?_
  refine R.one rfl ?_
  refine W.det (.lp 1 1 11) _ rfl ?_
  refine R.one rfl ?_
  refine W.det (.d (.v (.int .i64 p_.Bytes))) _ rfl ?_
  refine R.one rfl ?_
  refine W.det (.d (.v (.bool (p_.Bytes == (0 : Int))))) _ rfl ?_
  refine R.one rfl ?_
  refine W.det (.d (.v (.bool ((p_.Files == (0 : Int)) == (p_.Bytes == (0 : Int)))))) _ rfl ?_
  refine R.one rfl ?_
  refine W.det (.d (.v (.bool ((p_.Files == (0 : Int)) == (p_.Bytes == (0 : Int)))))) _ rfl ?_
  refine R.gT rfl rfl rfl h (fun _ h => ?_) (fun _ h => ?_)
  · refine W.det (.lp 1 1 10) _ rfl ?_
    refine R.run rfl rfl rfl ?_
    refine W.det (.d (.v (.int .i64 p_.Files))) _ rfl ?_
    refine R.run rfl rfl rfl ?_
    refine W.det (.d (.v (.bool (p_.Files == (0 : Int))))) _ rfl ?_
    refine R.run rfl rfl rfl ?_
    refine W.det (.lp 1 1 12) _ rfl ?_
    refine R.run rfl rfl rfl ?_
    refine W.det (.d (.fz (List.map encS p_.Types))) _ rfl ?_
    refine R.run rfl rfl rfl ?_
    refine W.len rfl ?_
    refine R.run rfl rfl rfl ?_
    refine W.det (.d (.v (.bool ((p_.Types.length : Int) == (0 : Int))))) _ rfl ?_
    refine R.run rfl rfl rfl ?_
    refine W.det (.d (.v (.bool ((p_.Files == (0 : Int)) == ((p_.Types.length : Int) == (0 : Int)))))) _ rfl ?_
    refine R.one rfl ?_
    refine W.det (.d (.v (.bool ((p_.Files == (0 : Int)) == ((p_.Types.length : Int) == (0 : Int)))))) _ rfl ?_
    refine R.one rfl ?_
    refine W.det (.d (.v (.bool ((p_.Files == (0 : Int)) == ((p_.Types.length : Int) == (0 : Int)))))) _ rfl ?_
    refine R.nil ?_
    refine seqK.n ?_
    refine A.ret ?_
    injection h with h
    subst h
    cases hG
    exact ⟨rfl, trivial⟩
  · refine R.skip rfl rfl rfl ?_
    refine R.skip rfl rfl rfl ?_
    refine R.skip rfl rfl rfl ?_
    refine R.skip rfl rfl rfl ?_
    refine R.skip rfl rfl rfl ?_
    refine R.skip rfl rfl rfl ?_
    refine R.skip rfl rfl rfl ?_
    refine R.one rfl ?_
    refine W.det (.kb false) _ rfl ?_
    refine R.one rfl ?_
    refine W.det (.kb false) _ rfl ?_
    refine R.nil ?_
    refine seqK.n ?_
    refine A.ret ?_
    injection h with h
    subst h
    cases hG
    exact ⟨rfl, trivial⟩
noncomputable def slices_Index_string_string_L1 (s_ : (List ByteArray)) (v_ : ByteArray) (s3 : Int) : Option ((Int) ⊕ ((Unit) ⊕ (Int))) :=
  (bif (decide (s3 < (s_.length : Int))) then
    (getI s_ s3).bind fun x12 =>
    (bif (v_.toList == x12.toList) then
      some (.inr (.inr s3))
    else
      some (.inl (IntKind.i64.wrap (s3 + (1 : Int)))))
  else
    some (.inr (.inl ())))
noncomputable def slices_Index_string_string (s_ : (List ByteArray)) (v_ : ByteArray) : Option (Int) :=
  (seqF (A := Unit) (
    loopF (slices_Index_string_string_L1 s_ v_) (0 : Int))
  fun s2 =>
    some (-1 : Int))
theorem slices_Index_string_string_fn {s_ : (List ByteArray)} {v_ : ByteArray} {r : Int} (h : slices_Index_string_string s_ v_ = some r) : Fn Try.prog 47 [.d (.fz (List.map encS s_)), .d (.v (.string v_))] (.d (.v (.int .i64 r))) := by
  refine Fn.of_AW (F := FnX Try.prog) (base := 0) (js := [7]) mixed tok noeqs (fun _ _ _ h => h) Try.call47 Try.func47 rfl Try.ntmps47 (by rw [Try.results47]) (by simp) ?_
  have hG : (fun x => x = r) r := rfl
  unfold slices_Index_string_string at h
  refine A.seq rfl ?_
  refine A.region ?_
  refine R.one rfl ?_
  refine W.det (.d (.v (.int .i64 (0 : Int)))) _ rfl ?_
  refine R.nil ?_
  refine seqK.n ?_
  refine A.join (fun (s2 : Unit) => []) (fun s2 => []) _ h hG rfl ?_ ?_
  · intro J f h hG
    refine A.seq rfl ?_
    refine A.region ?_
    refine R.one rfl ?_
    refine W.det (.d (.fz (List.map encS s_))) _ rfl ?_
    refine R.one rfl ?_
    refine W.len rfl ?_
    refine R.one rfl ?_
    refine W.det (.d (.v (.int .i64 (0 : Int)))) _ rfl ?_
    refine R.nil ?_
    refine seqK.n ?_
    refine A.block ?_
    refine A.loop (fun (s3 : Int) => [(0, .d (.fz (List.map encS s_))), (1, .d (.v (.string v_))), (7, .d (.v (.int .i64 (s_.length : Int)))), (8, .d (.v (.int .i64 s3)))]) (fun s3 => []) _ h hG (Enters.of [] [] _ rfl rfl (chkE.c rfl rfl (chkE.c rfl rfl (chkE.c rfl rfl (chkE.c rfl rfl trivial)))) trivial) ?_
    intro J s3 f h hG
    unfold slices_Index_string_string_L1 at h
    refine A.seq rfl ?_
    refine A.region ?_
    refine R.one rfl ?_
    refine W.det (.d (.v (.bool (decide (s3 < (s_.length : Int)))))) _ rfl ?_
    refine R.nil ?_
    refine seqK.n ?_
    refine A.seq rfl ?_
    refine A.condB rfl h (fun _ h => ?_) (fun _ h => ?_)
    · refine A.skip ?_
      refine seqK.n ?_
      refine A.seq rfl ?_
      refine A.block ?_
      refine A.seq rfl ?_
      refine A.region ?_
      refine R.one rfl ?_
      refine W.det (.d (.v (.int .i64 s3))) _ rfl ?_
      refine R.one rfl ?_
      refine W.det (.d (.v (.int .i64 s3))) _ rfl ?_
      refine R.nil ?_
      refine seqK.n ?_
      refine A.seq rfl ?_
      refine A.region ?_
      refine R.one rfl ?_
      refine W.det (.d (.v (.string v_))) _ rfl ?_
      refine R.one rfl ?_
      refine W.det (.d (.fz (List.map encS s_))) _ rfl ?_
      refine R.one rfl ?_
      refine W.det (.d (.v (.int .i64 s3))) _ rfl ?_
      refine R.one rfl ?_
      refine bindK h fun x12 hx12 h => ?_
      refine W.chk rfl (elemB hx12) ?_
      refine W.elem rfl (elemG hx12) ?_
      refine W.chk rfl rfl ?_
      refine W.det (.fp [.v (.string x12)]) _ rfl ?_
      refine R.one rfl ?_
      refine W.det (.d (.v (.string x12))) _ rfl ?_
      refine R.one rfl ?_
      refine W.det (.d (.v (.bool (v_.toList == x12.toList)))) _ rfl ?_
      refine R.nil ?_
      refine seqK.n ?_
      refine A.condB rfl h (fun _ h => ?_) (fun _ h => ?_)
      · refine A.seq rfl ?_
        refine A.region ?_
        refine R.one rfl ?_
        refine W.det (.d (.v (.int .i64 s3))) _ rfl ?_
        refine R.one rfl ?_
        refine W.det (.d (.v (.int .i64 s3))) _ rfl ?_
        refine R.nil ?_
        refine seqK.n ?_
        refine A.ret ?_
        refine blockK.r ?_
        refine seqK.r ?_
        refine headK.r ?_
        refine blockK.r ?_
        refine headK.r ?_
        injection h with h
        subst h
        cases hG
        exact ⟨rfl, trivial⟩
      · refine A.skip ?_
        refine blockK.n ?_
        refine seqK.n ?_
        refine A.region ?_
        refine R.one rfl ?_
        refine W.det (.d (.v (.int .i64 (IntKind.i64.wrap (s3 + (1 : Int)))))) _ rfl ?_
        refine R.one rfl ?_
        refine W.det (.d (.v (.int .i64 (IntKind.i64.wrap (s3 + (1 : Int)))))) _ rfl ?_
        refine R.nil ?_
        injection h with h
        subst h
        exact headK.n hG (Enters.of [] [] _ rfl rfl (chkE.c rfl rfl (chkE.c rfl rfl (chkE.c rfl rfl (chkE.c rfl rfl trivial)))) trivial)
    · refine A.exit ?_
      refine seqK.e ?_
      refine headK.e ?_
      refine blockK.x ?_
      injection h with h
      subst h
      exact headK.n hG (Enters.of [] [] _ rfl rfl trivial trivial)
  · intro s2 r2 h hG
    refine A.seq rfl ?_
    refine A.region ?_
    refine R.one rfl ?_
    refine W.det (.d (.v (.int .i64 (-1 : Int)))) _ rfl ?_
    refine R.nil ?_
    refine seqK.n ?_
    refine A.ret ?_
    injection h with h
    subst h
    cases hG
    exact ⟨rfl, trivial⟩
noncomputable def slices_Contains_string_string (s_ : (List ByteArray)) (v_ : ByteArray) : Option (Bool) :=
  (slices_Index_string_string s_ v_).bind fun y1 =>
  some (decide ((0 : Int) ≤ y1))
theorem slices_Contains_string_string_fn {s_ : (List ByteArray)} {v_ : ByteArray} {r : Bool} (h : slices_Contains_string_string s_ v_ = some r) : Fn Try.prog 32 [.d (.fz (List.map encS s_)), .d (.v (.string v_))] (.d (.v (.bool r))) := by
  refine Fn.of_AW (F := FnX Try.prog) (base := 0) (js := []) mixed tok noeqs (fun _ _ _ h => h) Try.call32 Try.func32 rfl Try.ntmps32 (by rw [Try.results32]) (by simp) ?_
  have hG : (fun x => x = r) r := rfl
  unfold slices_Contains_string_string at h
  refine A.seq rfl ?_
  refine A.region ?_
  refine R.one rfl ?_
  refine W.det (.kb false) _ rfl ?_
  refine R.nil ?_
  refine seqK.n ?_
  refine A.seq rfl ?_
  refine A.region ?_
  refine R.one rfl ?_
  refine W.det (.d (.fz (List.map encS s_))) _ rfl ?_
  refine R.one rfl ?_
  refine W.det (.d (.v (.string v_))) _ rfl ?_
  refine R.one rfl ?_
  refine bindK h fun y1 hy1 h => ?_
  refine W.call rfl (slices_Index_string_string_fn hy1) ?_
  refine W.det (.d (.v (.int .i64 y1))) _ rfl ?_
  refine R.one rfl ?_
  refine W.det (.d (.v (.bool (decide ((0 : Int) ≤ y1))))) _ rfl ?_
  refine R.one rfl ?_
  refine W.det (.d (.v (.bool (decide ((0 : Int) ≤ y1))))) _ rfl ?_
  refine R.nil ?_
  refine seqK.n ?_
  refine A.ret ?_
  injection h with h
  subst h
  cases hG
  exact ⟨rfl, trivial⟩
noncomputable def profile_Check_L1 (p_ : api_Profile) (s3 : Int) : Option ((Int) ⊕ ((Unit) ⊕ (Int))) :=
  (bif (decide (s3 < (p_.Types.length : Int))) then
    (getI p_.Types s3).bind fun x51 =>
    (chkO (cutO (0 : Int) s3 (p_.Types.length : Int))).bind fun _ =>
    (slices_Contains_string_string (List.drop (0 : Int).toNat (List.take s3.toNat p_.Types)) x51).bind fun y53 =>
    (bif y53 then
      some (.inr (.inr (5 : Int)))
    else
      some (.inl (IntKind.i64.wrap (s3 + (1 : Int)))))
  else
    some (.inr (.inl ())))
noncomputable def profile_Check_L2 (p_ : api_Profile) (s6 : Int) : Option ((Int) ⊕ ((Unit) ⊕ (Int))) :=
  (bif (decide (s6 < (p_.Types.length : Int))) then
    (getI p_.Types s6).bind fun x88 =>
    (chkO (cutO (0 : Int) s6 (p_.Types.length : Int))).bind fun _ =>
    (slices_Contains_string_string (List.drop (0 : Int).toNat (List.take s6.toNat p_.Types)) x88).bind fun y90 =>
    (bif y90 then
      some (.inr (.inr (5 : Int)))
    else
      some (.inl (IntKind.i64.wrap (s6 + (1 : Int)))))
  else
    some (.inr (.inl ())))
noncomputable def profile_Check (p_ : api_Profile) : Option (Int) :=
  (syntax_Right p_).bind fun y2 =>
  (bif (!y2) then
    some (1 : Int)
  else
    (profile_within p_.Size (40 : Int) (4000 : Int)).bind fun y15 =>
    (bif (!y15) then
      some (3 : Int)
    else
      (profile_within p_.Parts (1 : Int) (20 : Int)).bind fun y16 =>
      (bif (!y16) then
        some (3 : Int)
      else
        (bif (decide ((4 : Int) < p_.Files)) then
          some (3 : Int)
        else
          (bif (decide ((65536 : Int) < p_.Bytes)) then
            some (3 : Int)
          else
            (bif (decide (p_.Rate < (1 : Int))) then
              some (3 : Int)
            else
              (bif (p_.Down != (0 : Int)) then
                (bif (decide (p_.Window ≤ p_.Down)) then
                  some (3 : Int)
                else
                  (profile_together p_).bind fun y17 =>
                  (bif (!y17) then
                    some (3 : Int)
                  else
                    (seqF (A := Unit) (
                      loopF (profile_Check_L1 p_) (0 : Int))
                    fun s2 =>
                      some (0 : Int))))
              else
                (profile_together p_).bind fun y54 =>
                (bif (!y54) then
                  some (3 : Int)
                else
                  (seqF (A := Unit) (
                    loopF (profile_Check_L2 p_) (0 : Int))
                  fun s5 =>
                    some (0 : Int))))))))))
theorem profile_Check_fn {p_ : api_Profile} {r : Int} (h : profile_Check p_ = some r) : Fn Try.prog 19 [.agg [.d (.v (.string p_.Name)), .d (.v (.int .i64 p_.Edit)), .d (.v (.int .i64 p_.Within)), .d (.v (.int .i64 p_.Delete)), .d (.v (.bool p_.React)), .d (.v (.int .i64 p_.Thread)), .d (.v (.bool p_.Quote)), .d (.v (.bool p_.Mention)), .d (.v (.int .i64 p_.Size)), .d (.v (.int .i64 p_.Parts)), .d (.v (.int .i64 p_.Files)), .d (.v (.int .i64 p_.Bytes)), .d (.fz (List.map encS p_.Types)), .d (.v (.int .i64 p_.Join)), .d (.v (.int .i64 p_.History)), .d (.v (.int .i64 p_.Remove)), .d (.v (.int .i64 p_.Level)), .d (.v (.bool p_.Batch)), .d (.v (.int .i64 p_.Rate)), .d (.v (.int .i64 p_.Down)), .d (.v (.int .i64 p_.Window)), .d (.v (.int .i64 p_.Keep))]] (.d (.v (.int .i64 r))) := by
  refine Fn.of_AW (F := FnX Try.prog) (base := 0) (js := [11]) mixed tok noeqs (fun _ _ _ h => h) Try.call19 Try.func19 rfl Try.ntmps19 (by rw [Try.results19]) (by simp) ?_
  have hG : (fun x => x = r) r := rfl
  unfold profile_Check at h
  refine A.seq rfl ?_
  refine A.region ?_
  refine R.one rfl ?_
  refine W.det (.lp 1 1 0) (Mem.add _ 1 (.box [.d (.v (.string p_.Name)), .d (.v (.int .i64 p_.Edit)), .d (.v (.int .i64 p_.Within)), .d (.v (.int .i64 p_.Delete)), .d (.v (.bool p_.React)), .d (.v (.int .i64 p_.Thread)), .d (.v (.bool p_.Quote)), .d (.v (.bool p_.Mention)), .d (.v (.int .i64 p_.Size)), .d (.v (.int .i64 p_.Parts)), .d (.v (.int .i64 p_.Files)), .d (.v (.int .i64 p_.Bytes)), .d (.fz (List.map encS p_.Types)), .d (.v (.int .i64 p_.Join)), .d (.v (.int .i64 p_.History)), .d (.v (.int .i64 p_.Remove)), .d (.v (.int .i64 p_.Level)), .d (.v (.bool p_.Batch)), .d (.v (.int .i64 p_.Rate)), .d (.v (.int .i64 p_.Down)), .d (.v (.int .i64 p_.Window)), .d (.v (.int .i64 p_.Keep))])) rfl ?_
  refine R.one rfl ?_
  refine W.det (.d (.v (.int .i64 (0 : Int)))) _ rfl ?_
  refine R.nil ?_
  refine seqK.n ?_
  refine A.seq rfl ?_
  refine A.seq rfl ?_
  refine A.region ?_
  refine R.one rfl ?_
  refine W.det (.agg [.d (.v (.string p_.Name)), .d (.v (.int .i64 p_.Edit)), .d (.v (.int .i64 p_.Within)), .d (.v (.int .i64 p_.Delete)), .d (.v (.bool p_.React)), .d (.v (.int .i64 p_.Thread)), .d (.v (.bool p_.Quote)), .d (.v (.bool p_.Mention)), .d (.v (.int .i64 p_.Size)), .d (.v (.int .i64 p_.Parts)), .d (.v (.int .i64 p_.Files)), .d (.v (.int .i64 p_.Bytes)), .d (.fz (List.map encS p_.Types)), .d (.v (.int .i64 p_.Join)), .d (.v (.int .i64 p_.History)), .d (.v (.int .i64 p_.Remove)), .d (.v (.int .i64 p_.Level)), .d (.v (.bool p_.Batch)), .d (.v (.int .i64 p_.Rate)), .d (.v (.int .i64 p_.Down)), .d (.v (.int .i64 p_.Window)), .d (.v (.int .i64 p_.Keep))]) _ rfl ?_
  refine R.one rfl ?_
  refine bindK h fun y2 hy2 h => ?_
  refine W.call rfl (syntax_Right_fn hy2) ?_
  refine W.det (.d (.v (.bool y2))) _ rfl ?_
  refine R.one rfl ?_
  refine W.det (.d (.v (.bool (!y2)))) _ rfl ?_
  refine R.nil ?_
  refine seqK.n ?_
  refine A.condB rfl h (fun _ h => ?_) (fun _ h => ?_)
  · refine A.seq rfl ?_
    refine A.region ?_
    refine R.one rfl ?_
    refine W.det (.d (.v (.int .i64 (1 : Int)))) _ rfl ?_
    refine R.nil ?_
    refine seqK.n ?_
    refine A.ret ?_
    refine seqK.r ?_
    injection h with h
    subst h
    cases hG
    exact ⟨rfl, trivial⟩
  · refine A.skip ?_
    refine seqK.n ?_
    refine A.seq rfl ?_
    refine A.seq rfl ?_
    refine A.region ?_
    refine R.one rfl ?_
    refine W.det (.lp 1 1 8) _ rfl ?_
    refine R.one rfl ?_
    refine W.det (.d (.v (.int .i64 p_.Size))) _ rfl ?_
    refine R.one rfl ?_
    refine bindK h fun y15 hy15 h => ?_
    refine W.call rfl (profile_within_fn hy15) ?_
    refine W.det (.d (.v (.bool y15))) _ rfl ?_
    refine R.one rfl ?_
    refine W.det (.d (.v (.bool (!y15)))) _ rfl ?_
    refine R.one rfl ?_
    refine W.det (.d (.v (.bool (!y15)))) _ rfl ?_
    refine R.gF rfl rfl rfl h (fun _ h => ?_) (fun _ h => ?_)
    · refine R.skip rfl rfl rfl ?_
      refine R.skip rfl rfl rfl ?_
      refine R.skip rfl rfl rfl ?_
      refine R.one rfl ?_
      refine W.det (.kb true) _ rfl ?_
      refine R.one rfl ?_
      refine W.det (.kb true) _ rfl ?_
      refine R.skip rfl rfl rfl ?_
      refine R.skip rfl rfl rfl ?_
      refine R.skip rfl rfl rfl ?_
      refine R.one rfl ?_
      refine W.det (.kb true) _ rfl ?_
      refine R.one rfl ?_
      refine W.det (.kb true) _ rfl ?_
      refine R.skip rfl rfl rfl ?_
      refine R.skip rfl rfl rfl ?_
      refine R.skip rfl rfl rfl ?_
      refine R.one rfl ?_
      refine W.det (.kb true) _ rfl ?_
      refine R.one rfl ?_
      refine W.det (.kb true) _ rfl ?_
      refine R.skip rfl rfl rfl ?_
      refine R.skip rfl rfl rfl ?_
      refine R.skip rfl rfl rfl ?_
      refine R.one rfl ?_
      refine W.det (.kb true) _ rfl ?_
      refine R.one rfl ?_
      refine W.det (.kb true) _ rfl ?_
      refine R.skip rfl rfl rfl ?_
      refine R.skip rfl rfl rfl ?_
      refine R.skip rfl rfl rfl ?_
      refine R.skip rfl rfl rfl ?_
      refine R.none_ rfl rfl rfl ?_
      refine R.none_ rfl rfl rfl ?_
      refine R.none_ rfl rfl rfl ?_
      refine R.none_ rfl rfl rfl ?_
      refine R.none_ rfl rfl rfl ?_
      refine R.skip rfl rfl rfl ?_
      refine R.one rfl ?_
      refine W.det (.kb true) _ rfl ?_
      refine R.one rfl ?_
      refine W.det (.kb true) _ rfl ?_
      refine R.skip rfl rfl rfl ?_
      refine R.skip rfl rfl rfl ?_
      refine R.skip rfl rfl rfl ?_
      refine R.one rfl ?_
      refine W.det (.kb true) _ rfl ?_
      refine R.nil ?_
      refine seqK.n ?_
      refine A.condT rfl ?_
      refine A.seq rfl ?_
      refine A.region ?_
      refine R.one rfl ?_
      refine W.det (.d (.v (.int .i64 (3 : Int)))) _ rfl ?_
      refine R.nil ?_
      refine seqK.n ?_
      refine A.ret ?_
      refine seqK.r ?_
      injection h with h
      subst h
      cases hG
      exact ⟨rfl, trivial⟩
    · refine W.det (.lp 1 1 9) _ rfl ?_
      refine R.run rfl rfl rfl ?_
      refine W.det (.d (.v (.int .i64 p_.Parts))) _ rfl ?_
      refine R.run rfl rfl rfl ?_
      refine bindK h fun y16 hy16 h => ?_
      refine W.call rfl (profile_within_fn hy16) ?_
      refine W.det (.d (.v (.bool y16))) _ rfl ?_
      refine R.run rfl rfl rfl ?_
      refine W.det (.d (.v (.bool (!y16)))) _ rfl ?_
      refine R.one rfl ?_
      refine W.det (.d (.v (.bool (!y16)))) _ rfl ?_
      refine R.one rfl ?_
      refine W.det (.d (.v (.bool (!y16)))) _ rfl ?_
      refine R.gF rfl rfl rfl h (fun _ h => ?_) (fun _ h => ?_)
      · refine R.skip rfl rfl rfl ?_
        refine R.skip rfl rfl rfl ?_
        refine R.one rfl ?_
        refine W.det (.kb true) _ rfl ?_
        refine R.one rfl ?_
        refine W.det (.kb true) _ rfl ?_
        refine R.skip rfl rfl rfl ?_
        refine R.skip rfl rfl rfl ?_
        refine R.skip rfl rfl rfl ?_
        refine R.one rfl ?_
        refine W.det (.kb true) _ rfl ?_
        refine R.one rfl ?_
        refine W.det (.kb true) _ rfl ?_
        refine R.skip rfl rfl rfl ?_
        refine R.skip rfl rfl rfl ?_
        refine R.skip rfl rfl rfl ?_
        refine R.one rfl ?_
        refine W.det (.kb true) _ rfl ?_
        refine R.one rfl ?_
        refine W.det (.kb true) _ rfl ?_
        refine R.skip rfl rfl rfl ?_
        refine R.skip rfl rfl rfl ?_
        refine R.skip rfl rfl rfl ?_
        refine R.skip rfl rfl rfl ?_
        refine R.none_ rfl rfl rfl ?_
        refine R.none_ rfl rfl rfl ?_
        refine R.none_ rfl rfl rfl ?_
        refine R.none_ rfl rfl rfl ?_
        refine R.none_ rfl rfl rfl ?_
        refine R.skip rfl rfl rfl ?_
        refine R.one rfl ?_
        refine W.det (.kb true) _ rfl ?_
        refine R.one rfl ?_
        refine W.det (.kb true) _ rfl ?_
        refine R.skip rfl rfl rfl ?_
        refine R.skip rfl rfl rfl ?_
        refine R.skip rfl rfl rfl ?_
        refine R.one rfl ?_
        refine W.det (.kb true) _ rfl ?_
        refine R.nil ?_
        refine seqK.n ?_
        refine A.condT rfl ?_
        refine A.seq rfl ?_
        refine A.region ?_
        refine R.one rfl ?_
        refine W.det (.d (.v (.int .i64 (3 : Int)))) _ rfl ?_
        refine R.nil ?_
        refine seqK.n ?_
        refine A.ret ?_
        refine seqK.r ?_
        injection h with h
        subst h
        cases hG
        exact ⟨rfl, trivial⟩
      · refine W.det (.lp 1 1 10) _ rfl ?_
        refine R.run rfl rfl rfl ?_
        refine W.det (.d (.v (.int .i64 p_.Files))) _ rfl ?_
        refine R.run rfl rfl rfl ?_
        refine W.det (.d (.v (.bool (decide ((4 : Int) < p_.Files))))) _ rfl ?_
        refine R.one rfl ?_
        refine W.det (.d (.v (.bool (decide ((4 : Int) < p_.Files))))) _ rfl ?_
        refine R.one rfl ?_
        refine W.det (.d (.v (.bool (decide ((4 : Int) < p_.Files))))) _ rfl ?_
        refine R.gF rfl rfl rfl h (fun _ h => ?_) (fun _ h => ?_)
        · refine R.skip rfl rfl rfl ?_
          refine R.skip rfl rfl rfl ?_
          refine R.one rfl ?_
          refine W.det (.kb true) _ rfl ?_
          refine R.one rfl ?_
          refine W.det (.kb true) _ rfl ?_
          refine R.skip rfl rfl rfl ?_
          refine R.skip rfl rfl rfl ?_
          refine R.skip rfl rfl rfl ?_
          refine R.one rfl ?_
          refine W.det (.kb true) _ rfl ?_
          refine R.one rfl ?_
          refine W.det (.kb true) _ rfl ?_
          refine R.skip rfl rfl rfl ?_
          refine R.skip rfl rfl rfl ?_
          refine R.skip rfl rfl rfl ?_
          refine R.skip rfl rfl rfl ?_
          refine R.none_ rfl rfl rfl ?_
          refine R.none_ rfl rfl rfl ?_
          refine R.none_ rfl rfl rfl ?_
          refine R.none_ rfl rfl rfl ?_
          refine R.none_ rfl rfl rfl ?_
          refine R.skip rfl rfl rfl ?_
          refine R.one rfl ?_
          refine W.det (.kb true) _ rfl ?_
          refine R.one rfl ?_
          refine W.det (.kb true) _ rfl ?_
          refine R.skip rfl rfl rfl ?_
          refine R.skip rfl rfl rfl ?_
          refine R.skip rfl rfl rfl ?_
          refine R.one rfl ?_
          refine W.det (.kb true) _ rfl ?_
          refine R.nil ?_
          refine seqK.n ?_
          refine A.condT rfl ?_
          refine A.seq rfl ?_
          refine A.region ?_
          refine R.one rfl ?_
          refine W.det (.d (.v (.int .i64 (3 : Int)))) _ rfl ?_
          refine R.nil ?_
          refine seqK.n ?_
          refine A.ret ?_
          refine seqK.r ?_
          injection h with h
          subst h
          cases hG
          exact ⟨rfl, trivial⟩
        · refine W.det (.lp 1 1 11) _ rfl ?_
          refine R.run rfl rfl rfl ?_
          refine W.det (.d (.v (.int .i64 p_.Bytes))) _ rfl ?_
          refine R.run rfl rfl rfl ?_
          refine W.det (.d (.v (.bool (decide ((65536 : Int) < p_.Bytes))))) _ rfl ?_
          refine R.one rfl ?_
          refine W.det (.d (.v (.bool (decide ((65536 : Int) < p_.Bytes))))) _ rfl ?_
          refine R.one rfl ?_
          refine W.det (.d (.v (.bool (decide ((65536 : Int) < p_.Bytes))))) _ rfl ?_
          refine R.gF rfl rfl rfl h (fun _ h => ?_) (fun _ h => ?_)
          · refine R.skip rfl rfl rfl ?_
            refine R.skip rfl rfl rfl ?_
            refine R.one rfl ?_
            refine W.det (.kb true) _ rfl ?_
            refine R.one rfl ?_
            refine W.det (.kb true) _ rfl ?_
            refine R.skip rfl rfl rfl ?_
            refine R.skip rfl rfl rfl ?_
            refine R.skip rfl rfl rfl ?_
            refine R.skip rfl rfl rfl ?_
            refine R.none_ rfl rfl rfl ?_
            refine R.none_ rfl rfl rfl ?_
            refine R.none_ rfl rfl rfl ?_
            refine R.none_ rfl rfl rfl ?_
            refine R.none_ rfl rfl rfl ?_
            refine R.skip rfl rfl rfl ?_
            refine R.one rfl ?_
            refine W.det (.kb true) _ rfl ?_
            refine R.one rfl ?_
            refine W.det (.kb true) _ rfl ?_
            refine R.skip rfl rfl rfl ?_
            refine R.skip rfl rfl rfl ?_
            refine R.skip rfl rfl rfl ?_
            refine R.one rfl ?_
            refine W.det (.kb true) _ rfl ?_
            refine R.nil ?_
            refine seqK.n ?_
            refine A.condT rfl ?_
            refine A.seq rfl ?_
            refine A.region ?_
            refine R.one rfl ?_
            refine W.det (.d (.v (.int .i64 (3 : Int)))) _ rfl ?_
            refine R.nil ?_
            refine seqK.n ?_
            refine A.ret ?_
            refine seqK.r ?_
            injection h with h
            subst h
            cases hG
            exact ⟨rfl, trivial⟩
          · refine W.det (.lp 1 1 18) _ rfl ?_
            refine R.run rfl rfl rfl ?_
            refine W.det (.d (.v (.int .i64 p_.Rate))) _ rfl ?_
            refine R.run rfl rfl rfl ?_
            refine W.det (.d (.v (.bool (decide (p_.Rate < (1 : Int)))))) _ rfl ?_
            refine R.one rfl ?_
            refine W.det (.d (.v (.bool (decide (p_.Rate < (1 : Int)))))) _ rfl ?_
            refine R.one rfl ?_
            refine W.det (.d (.v (.bool (decide (p_.Rate < (1 : Int)))))) _ rfl ?_
            refine R.gF rfl rfl rfl h (fun _ h => ?_) (fun _ h => ?_)
            · refine R.skip rfl rfl rfl ?_
              refine R.skip rfl rfl rfl ?_
              refine R.skip rfl rfl rfl ?_
              refine R.none_ rfl rfl rfl ?_
              refine R.none_ rfl rfl rfl ?_
              refine R.none_ rfl rfl rfl ?_
              refine R.none_ rfl rfl rfl ?_
              refine R.none_ rfl rfl rfl ?_
              refine R.skip rfl rfl rfl ?_
              refine R.one rfl ?_
              refine W.det (.kb true) _ rfl ?_
              refine R.one rfl ?_
              refine W.det (.kb true) _ rfl ?_
              refine R.skip rfl rfl rfl ?_
              refine R.skip rfl rfl rfl ?_
              refine R.skip rfl rfl rfl ?_
              refine R.one rfl ?_
              refine W.det (.kb true) _ rfl ?_
              refine R.nil ?_
              refine seqK.n ?_
              refine A.condT rfl ?_
              refine A.seq rfl ?_
              refine A.region ?_
              refine R.one rfl ?_
              refine W.det (.d (.v (.int .i64 (3 : Int)))) _ rfl ?_
              refine R.nil ?_
              refine seqK.n ?_
              refine A.ret ?_
              refine seqK.r ?_
              injection h with h
              subst h
              cases hG
              exact ⟨rfl, trivial⟩
            · refine W.det (.lp 1 1 19) _ rfl ?_
              refine R.run rfl rfl rfl ?_
              refine W.det (.d (.v (.int .i64 p_.Down))) _ rfl ?_
              refine R.run rfl rfl rfl ?_
              refine W.det (.d (.v (.bool (p_.Down != (0 : Int))))) _ rfl ?_
              refine R.run rfl rfl rfl ?_
              refine W.det (.d (.v (.bool (p_.Down != (0 : Int))))) _ rfl ?_
              refine R.gT rfl rfl rfl h (fun _ h => ?_) (fun _ h => ?_)
              · refine W.det (.lp 1 1 19) _ rfl ?_
                refine R.run rfl rfl rfl ?_
                refine W.det (.d (.v (.int .i64 p_.Down))) _ rfl ?_
                refine R.run rfl rfl rfl ?_
                refine W.det (.lp 1 1 20) _ rfl ?_
                refine R.run rfl rfl rfl ?_
                refine W.det (.d (.v (.int .i64 p_.Window))) _ rfl ?_
                refine R.run rfl rfl rfl ?_
                refine W.det (.d (.v (.bool (decide (p_.Window ≤ p_.Down))))) _ rfl ?_
                refine R.run rfl rfl rfl ?_
                refine W.det (.d (.v (.bool (decide (p_.Window ≤ p_.Down))))) _ rfl ?_
                refine R.one rfl ?_
                refine W.det (.d (.v (.bool (decide (p_.Window ≤ p_.Down))))) _ rfl ?_
                refine R.one rfl ?_
                refine W.det (.d (.v (.bool (decide (p_.Window ≤ p_.Down))))) _ rfl ?_
                refine R.gF rfl rfl rfl h (fun _ h => ?_) (fun _ h => ?_)
                · refine R.skip rfl rfl rfl ?_
                  refine R.skip rfl rfl rfl ?_
                  refine R.one rfl ?_
                  refine W.det (.kb true) _ rfl ?_
                  refine R.nil ?_
                  refine seqK.n ?_
                  refine A.condT rfl ?_
                  refine A.seq rfl ?_
                  refine A.region ?_
                  refine R.one rfl ?_
                  refine W.det (.d (.v (.int .i64 (3 : Int)))) _ rfl ?_
                  refine R.nil ?_
                  refine seqK.n ?_
                  refine A.ret ?_
                  refine seqK.r ?_
                  injection h with h
                  subst h
                  cases hG
                  exact ⟨rfl, trivial⟩
                · refine W.det (.agg [.d (.v (.string p_.Name)), .d (.v (.int .i64 p_.Edit)), .d (.v (.int .i64 p_.Within)), .d (.v (.int .i64 p_.Delete)), .d (.v (.bool p_.React)), .d (.v (.int .i64 p_.Thread)), .d (.v (.bool p_.Quote)), .d (.v (.bool p_.Mention)), .d (.v (.int .i64 p_.Size)), .d (.v (.int .i64 p_.Parts)), .d (.v (.int .i64 p_.Files)), .d (.v (.int .i64 p_.Bytes)), .d (.fz (List.map encS p_.Types)), .d (.v (.int .i64 p_.Join)), .d (.v (.int .i64 p_.History)), .d (.v (.int .i64 p_.Remove)), .d (.v (.int .i64 p_.Level)), .d (.v (.bool p_.Batch)), .d (.v (.int .i64 p_.Rate)), .d (.v (.int .i64 p_.Down)), .d (.v (.int .i64 p_.Window)), .d (.v (.int .i64 p_.Keep))]) _ rfl ?_
                  refine R.run rfl rfl rfl ?_
                  refine bindK h fun y17 hy17 h => ?_
                  refine W.call rfl (profile_together_fn hy17) ?_
                  refine W.det (.d (.v (.bool y17))) _ rfl ?_
                  refine R.run rfl rfl rfl ?_
                  refine W.det (.d (.v (.bool (!y17)))) _ rfl ?_
                  refine R.one rfl ?_
                  refine W.det (.d (.v (.bool (!y17)))) _ rfl ?_
                  refine R.nil ?_
                  refine seqK.n ?_
                  refine A.condB rfl h (fun _ h => ?_) (fun _ h => ?_)
                  · refine A.seq rfl ?_
                    refine A.region ?_
                    refine R.one rfl ?_
                    refine W.det (.d (.v (.int .i64 (3 : Int)))) _ rfl ?_
                    refine R.nil ?_
                    refine seqK.n ?_
                    refine A.ret ?_
                    refine seqK.r ?_
                    injection h with h
                    subst h
                    cases hG
                    exact ⟨rfl, trivial⟩
                  · refine A.skip ?_
                    refine seqK.n ?_
                    refine A.join (fun (s2 : Unit) => []) (fun s2 => []) _ h hG rfl ?_ ?_
                    · intro J f h hG
                      refine A.seq rfl ?_
                      refine A.region ?_
                      refine R.one rfl ?_
                      refine W.det (.lp 1 1 12) _ rfl ?_
                      refine R.one rfl ?_
                      refine W.det (.d (.fz (List.map encS p_.Types))) _ rfl ?_
                      refine R.one rfl ?_
                      refine W.len rfl ?_
                      refine R.one rfl ?_
                      refine W.det (.d (.v (.int .i64 (0 : Int)))) _ rfl ?_
                      refine R.nil ?_
                      refine seqK.n ?_
                      refine A.block ?_
                      refine A.loop (fun (s3 : Int) => [(1, .lp 900000 1 0), (51, .d (.fz (List.map encS p_.Types))), (52, .d (.v (.int .i64 (p_.Types.length : Int)))), (53, .d (.v (.int .i64 s3)))]) (fun s3 => [(900000, .box [.d (.v (.string p_.Name)), .d (.v (.int .i64 p_.Edit)), .d (.v (.int .i64 p_.Within)), .d (.v (.int .i64 p_.Delete)), .d (.v (.bool p_.React)), .d (.v (.int .i64 p_.Thread)), .d (.v (.bool p_.Quote)), .d (.v (.bool p_.Mention)), .d (.v (.int .i64 p_.Size)), .d (.v (.int .i64 p_.Parts)), .d (.v (.int .i64 p_.Files)), .d (.v (.int .i64 p_.Bytes)), .d (.fz (List.map encS p_.Types)), .d (.v (.int .i64 p_.Join)), .d (.v (.int .i64 p_.History)), .d (.v (.int .i64 p_.Remove)), .d (.v (.int .i64 p_.Level)), .d (.v (.bool p_.Batch)), .d (.v (.int .i64 p_.Rate)), .d (.v (.int .i64 p_.Down)), .d (.v (.int .i64 p_.Window)), .d (.v (.int .i64 p_.Keep))])]) _ h hG (Enters.of [] [(900000, (1, 1))] _ rfl rfl (chkE.c rfl rfl (chkE.c rfl rfl (chkE.c rfl rfl (chkE.c rfl rfl trivial)))) (chkM.c rfl rfl trivial)) ?_
                      intro J s3 f h hG
                      unfold profile_Check_L1 at h
                      refine A.seq rfl ?_
                      refine A.region ?_
                      refine R.one rfl ?_
                      refine W.det (.d (.v (.bool (decide (s3 < (p_.Types.length : Int)))))) _ rfl ?_
                      refine R.nil ?_
                      refine seqK.n ?_
                      refine A.seq rfl ?_
                      refine A.condB rfl h (fun _ h => ?_) (fun _ h => ?_)
                      · refine A.skip ?_
                        refine seqK.n ?_
                        refine A.seq rfl ?_
                        refine A.block ?_
                        refine A.seq rfl ?_
                        refine A.region ?_
                        refine R.one rfl ?_
                        refine W.det (.d (.v (.int .i64 s3))) _ rfl ?_
                        refine R.one rfl ?_
                        refine bindK h fun x51 hx51 h => ?_
                        refine W.chk rfl (elemB hx51) ?_
                        refine W.elem rfl (elemG hx51) ?_
                        refine W.chk rfl rfl ?_
                        refine W.det (.fp [.v (.string x51)]) _ rfl ?_
                        refine R.one rfl ?_
                        refine W.det (.d (.v (.string x51))) _ rfl ?_
                        refine R.one rfl ?_
                        refine W.det (.d (.v (.int .i64 s3))) _ rfl ?_
                        refine R.one rfl ?_
                        refine W.det (.d (.v (.string x51))) _ rfl ?_
                        refine R.nil ?_
                        refine seqK.n ?_
                        refine A.seq rfl ?_
                        refine A.region ?_
                        refine R.one rfl ?_
                        refine W.det (.lp 900000 1 12) _ rfl ?_
                        refine R.one rfl ?_
                        refine W.det (.d (.fz (List.map encS p_.Types))) _ rfl ?_
                        refine R.one rfl ?_
                        refine W.det (.d (.v (.int .i64 s3))) _ rfl ?_
                        refine R.one rfl ?_
                        refine chkK h fun g52 h => ?_
                        refine W.chk rfl (cutO_map (fun _ => rfl) g52) ?_
                        refine W.cut rfl ?_
                        refine R.one rfl ?_
                        refine W.det (.d (.v (.string x51))) _ rfl ?_
                        refine R.one rfl ?_
                        refine bindK h fun y53 hy53 h => ?_
                        refine W.call rfl (slices_Contains_string_string_fn hy53) ?_
                        refine W.det (.d (.v (.bool y53))) _ rfl ?_
                        refine R.nil ?_
                        refine seqK.n ?_
                        refine A.condB rfl h (fun _ h => ?_) (fun _ h => ?_)
                        · refine A.seq rfl ?_
                          refine A.region ?_
                          refine R.one rfl ?_
                          refine W.det (.d (.v (.int .i64 (5 : Int)))) _ rfl ?_
                          refine R.nil ?_
                          refine seqK.n ?_
                          refine A.ret ?_
                          refine blockK.r ?_
                          refine seqK.r ?_
                          refine headK.r ?_
                          refine blockK.r ?_
                          refine headK.r ?_
                          injection h with h
                          subst h
                          cases hG
                          exact ⟨rfl, trivial⟩
                        · refine A.skip ?_
                          refine blockK.n ?_
                          refine seqK.n ?_
                          refine A.region ?_
                          refine R.one rfl ?_
                          refine W.det (.d (.v (.int .i64 (IntKind.i64.wrap (s3 + (1 : Int)))))) _ rfl ?_
                          refine R.one rfl ?_
                          refine W.det (.d (.v (.int .i64 (IntKind.i64.wrap (s3 + (1 : Int)))))) _ rfl ?_
                          refine R.nil ?_
                          injection h with h
                          subst h
                          exact headK.n hG (Enters.of [] [(900000, (900000, 1))] _ rfl rfl (chkE.c rfl rfl (chkE.c rfl rfl (chkE.c rfl rfl (chkE.c rfl rfl trivial)))) (chkM.c rfl rfl trivial))
                      · refine A.exit ?_
                        refine seqK.e ?_
                        refine headK.e ?_
                        refine blockK.x ?_
                        injection h with h
                        subst h
                        exact headK.n hG (Enters.of [] [] _ rfl rfl trivial trivial)
                    · intro s2 r2 h hG
                      refine A.seq rfl ?_
                      refine A.region ?_
                      refine R.one rfl ?_
                      refine W.det (.d (.v (.int .i64 (0 : Int)))) _ rfl ?_
                      refine R.nil ?_
                      refine seqK.n ?_
                      refine A.ret ?_
                      injection h with h
                      subst h
                      cases hG
                      exact ⟨rfl, trivial⟩
              · refine R.skip rfl rfl rfl ?_
                refine R.skip rfl rfl rfl ?_
                refine R.skip rfl rfl rfl ?_
                refine R.skip rfl rfl rfl ?_
                refine R.run rfl rfl rfl ?_
                refine W.det (.kb false) _ rfl ?_
                refine R.one rfl ?_
                refine W.det (.kb false) _ rfl ?_
                refine R.one rfl ?_
                refine W.det (.kb false) _ rfl ?_
                refine R.run rfl rfl rfl ?_
                refine W.det (.agg [.d (.v (.string p_.Name)), .d (.v (.int .i64 p_.Edit)), .d (.v (.int .i64 p_.Within)), .d (.v (.int .i64 p_.Delete)), .d (.v (.bool p_.React)), .d (.v (.int .i64 p_.Thread)), .d (.v (.bool p_.Quote)), .d (.v (.bool p_.Mention)), .d (.v (.int .i64 p_.Size)), .d (.v (.int .i64 p_.Parts)), .d (.v (.int .i64 p_.Files)), .d (.v (.int .i64 p_.Bytes)), .d (.fz (List.map encS p_.Types)), .d (.v (.int .i64 p_.Join)), .d (.v (.int .i64 p_.History)), .d (.v (.int .i64 p_.Remove)), .d (.v (.int .i64 p_.Level)), .d (.v (.bool p_.Batch)), .d (.v (.int .i64 p_.Rate)), .d (.v (.int .i64 p_.Down)), .d (.v (.int .i64 p_.Window)), .d (.v (.int .i64 p_.Keep))]) _ rfl ?_
                refine R.run rfl rfl rfl ?_
                refine bindK h fun y54 hy54 h => ?_
                refine W.call rfl (profile_together_fn hy54) ?_
                refine W.det (.d (.v (.bool y54))) _ rfl ?_
                refine R.run rfl rfl rfl ?_
                refine W.det (.d (.v (.bool (!y54)))) _ rfl ?_
                refine R.one rfl ?_
                refine W.det (.d (.v (.bool (!y54)))) _ rfl ?_
                refine R.nil ?_
                refine seqK.n ?_
                refine A.condB rfl h (fun _ h => ?_) (fun _ h => ?_)
                · refine A.seq rfl ?_
                  refine A.region ?_
                  refine R.one rfl ?_
                  refine W.det (.d (.v (.int .i64 (3 : Int)))) _ rfl ?_
                  refine R.nil ?_
                  refine seqK.n ?_
                  refine A.ret ?_
                  refine seqK.r ?_
                  injection h with h
                  subst h
                  cases hG
                  exact ⟨rfl, trivial⟩
                · refine A.skip ?_
                  refine seqK.n ?_
                  refine A.join (fun (s5 : Unit) => []) (fun s5 => []) _ h hG rfl ?_ ?_
                  · intro J f h hG
                    refine A.seq rfl ?_
                    refine A.region ?_
                    refine R.one rfl ?_
                    refine W.det (.lp 1 1 12) _ rfl ?_
                    refine R.one rfl ?_
                    refine W.det (.d (.fz (List.map encS p_.Types))) _ rfl ?_
                    refine R.one rfl ?_
                    refine W.len rfl ?_
                    refine R.one rfl ?_
                    refine W.det (.d (.v (.int .i64 (0 : Int)))) _ rfl ?_
                    refine R.nil ?_
                    refine seqK.n ?_
                    refine A.block ?_
                    refine A.loop (fun (s6 : Int) => [(1, .lp 900000 1 0), (51, .d (.fz (List.map encS p_.Types))), (52, .d (.v (.int .i64 (p_.Types.length : Int)))), (53, .d (.v (.int .i64 s6)))]) (fun s6 => [(900000, .box [.d (.v (.string p_.Name)), .d (.v (.int .i64 p_.Edit)), .d (.v (.int .i64 p_.Within)), .d (.v (.int .i64 p_.Delete)), .d (.v (.bool p_.React)), .d (.v (.int .i64 p_.Thread)), .d (.v (.bool p_.Quote)), .d (.v (.bool p_.Mention)), .d (.v (.int .i64 p_.Size)), .d (.v (.int .i64 p_.Parts)), .d (.v (.int .i64 p_.Files)), .d (.v (.int .i64 p_.Bytes)), .d (.fz (List.map encS p_.Types)), .d (.v (.int .i64 p_.Join)), .d (.v (.int .i64 p_.History)), .d (.v (.int .i64 p_.Remove)), .d (.v (.int .i64 p_.Level)), .d (.v (.bool p_.Batch)), .d (.v (.int .i64 p_.Rate)), .d (.v (.int .i64 p_.Down)), .d (.v (.int .i64 p_.Window)), .d (.v (.int .i64 p_.Keep))])]) _ h hG (Enters.of [] [(900000, (1, 1))] _ rfl rfl (chkE.c rfl rfl (chkE.c rfl rfl (chkE.c rfl rfl (chkE.c rfl rfl trivial)))) (chkM.c rfl rfl trivial)) ?_
                    intro J s6 f h hG
                    unfold profile_Check_L2 at h
                    refine A.seq rfl ?_
                    refine A.region ?_
                    refine R.one rfl ?_
                    refine W.det (.d (.v (.bool (decide (s6 < (p_.Types.length : Int)))))) _ rfl ?_
                    refine R.nil ?_
                    refine seqK.n ?_
                    refine A.seq rfl ?_
                    refine A.condB rfl h (fun _ h => ?_) (fun _ h => ?_)
                    · refine A.skip ?_
                      refine seqK.n ?_
                      refine A.seq rfl ?_
                      refine A.block ?_
                      refine A.seq rfl ?_
                      refine A.region ?_
                      refine R.one rfl ?_
                      refine W.det (.d (.v (.int .i64 s6))) _ rfl ?_
                      refine R.one rfl ?_
                      refine bindK h fun x88 hx88 h => ?_
                      refine W.chk rfl (elemB hx88) ?_
                      refine W.elem rfl (elemG hx88) ?_
                      refine W.chk rfl rfl ?_
                      refine W.det (.fp [.v (.string x88)]) _ rfl ?_
                      refine R.one rfl ?_
                      refine W.det (.d (.v (.string x88))) _ rfl ?_
                      refine R.one rfl ?_
                      refine W.det (.d (.v (.int .i64 s6))) _ rfl ?_
                      refine R.one rfl ?_
                      refine W.det (.d (.v (.string x88))) _ rfl ?_
                      refine R.nil ?_
                      refine seqK.n ?_
                      refine A.seq rfl ?_
                      refine A.region ?_
                      refine R.one rfl ?_
                      refine W.det (.lp 900000 1 12) _ rfl ?_
                      refine R.one rfl ?_
                      refine W.det (.d (.fz (List.map encS p_.Types))) _ rfl ?_
                      refine R.one rfl ?_
                      refine W.det (.d (.v (.int .i64 s6))) _ rfl ?_
                      refine R.one rfl ?_
                      refine chkK h fun g89 h => ?_
                      refine W.chk rfl (cutO_map (fun _ => rfl) g89) ?_
                      refine W.cut rfl ?_
                      refine R.one rfl ?_
                      refine W.det (.d (.v (.string x88))) _ rfl ?_
                      refine R.one rfl ?_
                      refine bindK h fun y90 hy90 h => ?_
                      refine W.call rfl (slices_Contains_string_string_fn hy90) ?_
                      refine W.det (.d (.v (.bool y90))) _ rfl ?_
                      refine R.nil ?_
                      refine seqK.n ?_
                      refine A.condB rfl h (fun _ h => ?_) (fun _ h => ?_)
                      · refine A.seq rfl ?_
                        refine A.region ?_
                        refine R.one rfl ?_
                        refine W.det (.d (.v (.int .i64 (5 : Int)))) _ rfl ?_
                        refine R.nil ?_
                        refine seqK.n ?_
                        refine A.ret ?_
                        refine blockK.r ?_
                        refine seqK.r ?_
                        refine headK.r ?_
                        refine blockK.r ?_
                        refine headK.r ?_
                        injection h with h
                        subst h
                        cases hG
                        exact ⟨rfl, trivial⟩
                      · refine A.skip ?_
                        refine blockK.n ?_
                        refine seqK.n ?_
                        refine A.region ?_
                        refine R.one rfl ?_
                        refine W.det (.d (.v (.int .i64 (IntKind.i64.wrap (s6 + (1 : Int)))))) _ rfl ?_
                        refine R.one rfl ?_
                        refine W.det (.d (.v (.int .i64 (IntKind.i64.wrap (s6 + (1 : Int)))))) _ rfl ?_
                        refine R.nil ?_
                        injection h with h
                        subst h
                        exact headK.n hG (Enters.of [] [(900000, (900000, 1))] _ rfl rfl (chkE.c rfl rfl (chkE.c rfl rfl (chkE.c rfl rfl (chkE.c rfl rfl trivial)))) (chkM.c rfl rfl trivial))
                    · refine A.exit ?_
                      refine seqK.e ?_
                      refine headK.e ?_
                      refine blockK.x ?_
                      injection h with h
                      subst h
                      exact headK.n hG (Enters.of [] [] _ rfl rfl trivial trivial)
                  · intro s5 r2 h hG
                    refine A.seq rfl ?_
                    refine A.region ?_
                    refine R.one rfl ?_
                    refine W.det (.d (.v (.int .i64 (0 : Int)))) _ rfl ?_
                    refine R.nil ?_
                    refine seqK.n ?_
                    refine A.ret ?_
                    injection h with h
                    subst h
                    cases hG
                    exact ⟨rfl, trivial⟩
structure api_Job where
  Id : Int
  Size : Int
  Due : Int
def api_Job.enc (x : api_Job) : List D := [.v (.int .i64 x.Id), .v (.int .i64 x.Size), .v (.int .i64 x.Due)]
noncomputable def admit_valid_L1 (jobs_ : (List api_Job)) (s3 : Int × (List (Int × Bool))) : Option ((Int × (List (Int × Bool))) ⊕ ((Unit) ⊕ (Bool))) :=
  (bif (decide (s3.1 < (jobs_.length : Int))) then
    (getI jobs_ s3.1).bind fun x12 =>
    (bif (decide (x12.Id < (0 : Int))) then
      some (.inr (.inr false))
    else
      (bif (mgetT x12.Id s3.2 false) then
        some (.inr (.inr false))
      else
        (bif (decide (x12.Size < (1 : Int))) then
          some (.inr (.inr false))
        else
          (bif (decide ((1099511627776 : Int) < x12.Size)) then
            some (.inr (.inr false))
          else
            (bif (decide (x12.Due < (0 : Int))) then
              some (.inr (.inr false))
            else
              (bif (decide ((1073741824 : Int) < x12.Due)) then
                some (.inr (.inr false))
              else
                some (.inl ((IntKind.i64.wrap (s3.1 + (1 : Int))), (mputT x12.Id true s3.2)))))))))
  else
    some (.inr (.inl ())))
noncomputable def admit_valid (jobs_ : (List api_Job)) : Option (Bool) :=
  (seqF (A := Unit) (
    loopF (admit_valid_L1 jobs_) ((0 : Int), ([] : List (Int × Bool))))
  fun s2 =>
    some (decide ((jobs_.length : Int) ≤ (1000 : Int))))
theorem admit_valid_fn {jobs_ : (List api_Job)} {r : Bool} (h : admit_valid jobs_ = some r) : Fn Try.prog 34 [.d (.fz (List.map api_Job.enc jobs_))] (.d (.v (.bool r))) := by
  refine Fn.of_AW (F := FnX Try.prog) (base := 0) (js := [9]) mixed tok noeqs (fun _ _ _ h => h) Try.call34 Try.func34 rfl Try.ntmps34 (by rw [Try.results34]) (by simp) ?_
  have hG : (fun x => x = r) r := rfl
  unfold admit_valid at h
  refine A.seq rfl ?_
  refine A.region ?_
  refine R.one rfl ?_
  refine W.det (.kb false) _ rfl ?_
  refine R.nil ?_
  refine seqK.n ?_
  refine A.seq rfl ?_
  refine A.region ?_
  refine R.one rfl ?_
  refine W.det (.mp 6 1) (Mem.add _ 6 (.mapi (.i .i64) (mapE (Value.int .i64) vB ([] : List (Int × Bool))))) rfl ?_
  refine R.one rfl ?_
  refine W.det (.mp 6 1) _ rfl ?_
  refine R.nil ?_
  refine seqK.n ?_
  refine A.join (fun (s2 : Unit) => [(0, .d (.fz (List.map api_Job.enc jobs_)))]) (fun s2 => []) _ h hG rfl ?_ ?_
  · intro J f h hG
    refine A.seq rfl ?_
    refine A.region ?_
    refine R.one rfl ?_
    refine W.det (.d (.fz (List.map api_Job.enc jobs_))) _ rfl ?_
    refine R.one rfl ?_
    refine W.len rfl ?_
    refine R.one rfl ?_
    refine W.det (.d (.v (.int .i64 (0 : Int)))) _ rfl ?_
    refine R.nil ?_
    refine seqK.n ?_
    refine A.block ?_
    refine A.loop (fun (s3 : Int × (List (Int × Bool))) => [(0, .d (.fz (List.map api_Job.enc jobs_))), (3, .mp 900000 1), (7, .d (.fz (List.map api_Job.enc jobs_))), (8, .d (.v (.int .i64 (jobs_.length : Int)))), (9, .d (.v (.int .i64 s3.1)))]) (fun s3 => [(900000, .mapi (.i .i64) (mapE (Value.int .i64) vB s3.2))]) _ h hG (Enters.of [] [(900000, (6, 1))] _ rfl rfl (chkE.c rfl rfl (chkE.c rfl rfl (chkE.c rfl rfl (chkE.c rfl rfl (chkE.c rfl rfl trivial))))) (chkM.c rfl rfl trivial)) ?_
    intro J s3 f h hG
    unfold admit_valid_L1 at h
    refine A.seq rfl ?_
    refine A.region ?_
    refine R.one rfl ?_
    refine W.det (.d (.v (.bool (decide (s3.1 < (jobs_.length : Int)))))) _ rfl ?_
    refine R.nil ?_
    refine seqK.n ?_
    refine A.seq rfl ?_
    refine A.condB rfl h (fun _ h => ?_) (fun _ h => ?_)
    · refine A.skip ?_
      refine seqK.n ?_
      refine A.seq rfl ?_
      refine A.block ?_
      refine A.seq rfl ?_
      refine A.region ?_
      refine R.one rfl ?_
      refine bindK h fun x12 hx12 h => ?_
      refine W.chk rfl (elemB hx12) ?_
      refine W.elem rfl (elemG hx12) ?_
      refine W.chk rfl rfl ?_
      refine W.det (.fp [.v (.int .i64 x12.Id), .v (.int .i64 x12.Size), .v (.int .i64 x12.Due)]) _ rfl ?_
      refine R.one rfl ?_
      refine W.det (.agg [.d (.v (.int .i64 x12.Id)), .d (.v (.int .i64 x12.Size)), .d (.v (.int .i64 x12.Due))]) _ rfl ?_
      refine R.one rfl ?_
      refine W.det (.lp 5 2 0) (Mem.add _ 5 (.box [.d (.v (.int .i64 (0 : Int))), .d (.v (.int .i64 (0 : Int))), .d (.v (.int .i64 (0 : Int)))])) rfl ?_
      refine R.one rfl ?_
      refine W.det (.tup []) (Mem.set _ 5 2 (some (.box [.d (.v (.int .i64 x12.Id)), .d (.v (.int .i64 x12.Size)), .d (.v (.int .i64 x12.Due))]))) rfl ?_
      refine R.nil ?_
      refine seqK.n ?_
      refine A.seq rfl ?_
      refine A.seq rfl ?_
      refine A.region ?_
      refine R.one rfl ?_
      refine W.det (.lp 5 2 0) _ rfl ?_
      refine R.one rfl ?_
      refine W.det (.d (.v (.int .i64 x12.Id))) _ rfl ?_
      refine R.one rfl ?_
      refine W.det (.d (.v (.bool (decide (x12.Id < (0 : Int)))))) _ rfl ?_
      refine R.one rfl ?_
      refine W.det (.d (.v (.bool (decide (x12.Id < (0 : Int)))))) _ rfl ?_
      refine R.gF rfl rfl rfl h (fun _ h => ?_) (fun _ h => ?_)
      · refine R.skip rfl rfl rfl ?_
        refine R.skip rfl rfl rfl ?_
        refine R.skip rfl rfl rfl ?_
        refine R.one rfl ?_
        refine W.det (.kb true) _ rfl ?_
        refine R.one rfl ?_
        refine W.det (.kb true) _ rfl ?_
        refine R.skip rfl rfl rfl ?_
        refine R.skip rfl rfl rfl ?_
        refine R.skip rfl rfl rfl ?_
        refine R.one rfl ?_
        refine W.det (.kb true) _ rfl ?_
        refine R.one rfl ?_
        refine W.det (.kb true) _ rfl ?_
        refine R.skip rfl rfl rfl ?_
        refine R.skip rfl rfl rfl ?_
        refine R.skip rfl rfl rfl ?_
        refine R.one rfl ?_
        refine W.det (.kb true) _ rfl ?_
        refine R.one rfl ?_
        refine W.det (.kb true) _ rfl ?_
        refine R.skip rfl rfl rfl ?_
        refine R.skip rfl rfl rfl ?_
        refine R.skip rfl rfl rfl ?_
        refine R.one rfl ?_
        refine W.det (.kb true) _ rfl ?_
        refine R.one rfl ?_
        refine W.det (.kb true) _ rfl ?_
        refine R.skip rfl rfl rfl ?_
        refine R.skip rfl rfl rfl ?_
        refine R.skip rfl rfl rfl ?_
        refine R.one rfl ?_
        refine W.det (.kb true) _ rfl ?_
        refine R.nil ?_
        refine seqK.n ?_
        refine A.condT rfl ?_
        refine A.seq rfl ?_
        refine A.region ?_
        refine R.one rfl ?_
        refine W.det (.kb false) _ rfl ?_
        refine R.nil ?_
        refine seqK.n ?_
        refine A.ret ?_
        refine seqK.r ?_
        refine blockK.r ?_
        refine seqK.r ?_
        refine headK.r ?_
        refine blockK.r ?_
        refine headK.r ?_
        injection h with h
        subst h
        cases hG
        exact ⟨rfl, trivial⟩
      · refine W.det (.mp 900000 1) _ rfl ?_
        refine R.run rfl rfl rfl ?_
        refine W.det (.lp 5 2 0) _ rfl ?_
        refine R.run rfl rfl rfl ?_
        refine W.det (.d (.v (.int .i64 x12.Id))) _ rfl ?_
        refine R.run rfl rfl rfl ?_
        refine W.look (Value.int .i64) vB x12.Id s3.2 false (fun _ _ => rfl) rfl ?_
        refine R.one rfl ?_
        refine W.det (.d (.v (.bool (mgetT x12.Id s3.2 false)))) _ rfl ?_
        refine R.one rfl ?_
        refine W.det (.d (.v (.bool (mgetT x12.Id s3.2 false)))) _ rfl ?_
        refine R.gF rfl rfl rfl h (fun _ h => ?_) (fun _ h => ?_)
        · refine R.skip rfl rfl rfl ?_
          refine R.skip rfl rfl rfl ?_
          refine R.one rfl ?_
          refine W.det (.kb true) _ rfl ?_
          refine R.one rfl ?_
          refine W.det (.kb true) _ rfl ?_
          refine R.skip rfl rfl rfl ?_
          refine R.skip rfl rfl rfl ?_
          refine R.skip rfl rfl rfl ?_
          refine R.one rfl ?_
          refine W.det (.kb true) _ rfl ?_
          refine R.one rfl ?_
          refine W.det (.kb true) _ rfl ?_
          refine R.skip rfl rfl rfl ?_
          refine R.skip rfl rfl rfl ?_
          refine R.skip rfl rfl rfl ?_
          refine R.one rfl ?_
          refine W.det (.kb true) _ rfl ?_
          refine R.one rfl ?_
          refine W.det (.kb true) _ rfl ?_
          refine R.skip rfl rfl rfl ?_
          refine R.skip rfl rfl rfl ?_
          refine R.skip rfl rfl rfl ?_
          refine R.one rfl ?_
          refine W.det (.kb true) _ rfl ?_
          refine R.nil ?_
          refine seqK.n ?_
          refine A.condT rfl ?_
          refine A.seq rfl ?_
          refine A.region ?_
          refine R.one rfl ?_
          refine W.det (.kb false) _ rfl ?_
          refine R.nil ?_
          refine seqK.n ?_
          refine A.ret ?_
          refine seqK.r ?_
          refine blockK.r ?_
          refine seqK.r ?_
          refine headK.r ?_
          refine blockK.r ?_
          refine headK.r ?_
          injection h with h
          subst h
          cases hG
          exact ⟨rfl, trivial⟩
        · refine W.det (.lp 5 2 1) _ rfl ?_
          refine R.run rfl rfl rfl ?_
          refine W.det (.d (.v (.int .i64 x12.Size))) _ rfl ?_
          refine R.run rfl rfl rfl ?_
          refine W.det (.d (.v (.bool (decide (x12.Size < (1 : Int)))))) _ rfl ?_
          refine R.one rfl ?_
          refine W.det (.d (.v (.bool (decide (x12.Size < (1 : Int)))))) _ rfl ?_
          refine R.one rfl ?_
          refine W.det (.d (.v (.bool (decide (x12.Size < (1 : Int)))))) _ rfl ?_
          refine R.gF rfl rfl rfl h (fun _ h => ?_) (fun _ h => ?_)
          · refine R.skip rfl rfl rfl ?_
            refine R.skip rfl rfl rfl ?_
            refine R.one rfl ?_
            refine W.det (.kb true) _ rfl ?_
            refine R.one rfl ?_
            refine W.det (.kb true) _ rfl ?_
            refine R.skip rfl rfl rfl ?_
            refine R.skip rfl rfl rfl ?_
            refine R.skip rfl rfl rfl ?_
            refine R.one rfl ?_
            refine W.det (.kb true) _ rfl ?_
            refine R.one rfl ?_
            refine W.det (.kb true) _ rfl ?_
            refine R.skip rfl rfl rfl ?_
            refine R.skip rfl rfl rfl ?_
            refine R.skip rfl rfl rfl ?_
            refine R.one rfl ?_
            refine W.det (.kb true) _ rfl ?_
            refine R.nil ?_
            refine seqK.n ?_
            refine A.condT rfl ?_
            refine A.seq rfl ?_
            refine A.region ?_
            refine R.one rfl ?_
            refine W.det (.kb false) _ rfl ?_
            refine R.nil ?_
            refine seqK.n ?_
            refine A.ret ?_
            refine seqK.r ?_
            refine blockK.r ?_
            refine seqK.r ?_
            refine headK.r ?_
            refine blockK.r ?_
            refine headK.r ?_
            injection h with h
            subst h
            cases hG
            exact ⟨rfl, trivial⟩
          · refine W.det (.lp 5 2 1) _ rfl ?_
            refine R.run rfl rfl rfl ?_
            refine W.det (.d (.v (.int .i64 x12.Size))) _ rfl ?_
            refine R.run rfl rfl rfl ?_
            refine W.det (.d (.v (.bool (decide ((1099511627776 : Int) < x12.Size))))) _ rfl ?_
            refine R.one rfl ?_
            refine W.det (.d (.v (.bool (decide ((1099511627776 : Int) < x12.Size))))) _ rfl ?_
            refine R.one rfl ?_
            refine W.det (.d (.v (.bool (decide ((1099511627776 : Int) < x12.Size))))) _ rfl ?_
            refine R.gF rfl rfl rfl h (fun _ h => ?_) (fun _ h => ?_)
            · refine R.skip rfl rfl rfl ?_
              refine R.skip rfl rfl rfl ?_
              refine R.one rfl ?_
              refine W.det (.kb true) _ rfl ?_
              refine R.one rfl ?_
              refine W.det (.kb true) _ rfl ?_
              refine R.skip rfl rfl rfl ?_
              refine R.skip rfl rfl rfl ?_
              refine R.skip rfl rfl rfl ?_
              refine R.one rfl ?_
              refine W.det (.kb true) _ rfl ?_
              refine R.nil ?_
              refine seqK.n ?_
              refine A.condT rfl ?_
              refine A.seq rfl ?_
              refine A.region ?_
              refine R.one rfl ?_
              refine W.det (.kb false) _ rfl ?_
              refine R.nil ?_
              refine seqK.n ?_
              refine A.ret ?_
              refine seqK.r ?_
              refine blockK.r ?_
              refine seqK.r ?_
              refine headK.r ?_
              refine blockK.r ?_
              refine headK.r ?_
              injection h with h
              subst h
              cases hG
              exact ⟨rfl, trivial⟩
            · refine W.det (.lp 5 2 2) _ rfl ?_
              refine R.run rfl rfl rfl ?_
              refine W.det (.d (.v (.int .i64 x12.Due))) _ rfl ?_
              refine R.run rfl rfl rfl ?_
              refine W.det (.d (.v (.bool (decide (x12.Due < (0 : Int)))))) _ rfl ?_
              refine R.one rfl ?_
              refine W.det (.d (.v (.bool (decide (x12.Due < (0 : Int)))))) _ rfl ?_
              refine R.one rfl ?_
              refine W.det (.d (.v (.bool (decide (x12.Due < (0 : Int)))))) _ rfl ?_
              refine R.gF rfl rfl rfl h (fun _ h => ?_) (fun _ h => ?_)
              · refine R.skip rfl rfl rfl ?_
                refine R.skip rfl rfl rfl ?_
                refine R.one rfl ?_
                refine W.det (.kb true) _ rfl ?_
                refine R.nil ?_
                refine seqK.n ?_
                refine A.condT rfl ?_
                refine A.seq rfl ?_
                refine A.region ?_
                refine R.one rfl ?_
                refine W.det (.kb false) _ rfl ?_
                refine R.nil ?_
                refine seqK.n ?_
                refine A.ret ?_
                refine seqK.r ?_
                refine blockK.r ?_
                refine seqK.r ?_
                refine headK.r ?_
                refine blockK.r ?_
                refine headK.r ?_
                injection h with h
                subst h
                cases hG
                exact ⟨rfl, trivial⟩
              · refine W.det (.lp 5 2 2) _ rfl ?_
                refine R.run rfl rfl rfl ?_
                refine W.det (.d (.v (.int .i64 x12.Due))) _ rfl ?_
                refine R.run rfl rfl rfl ?_
                refine W.det (.d (.v (.bool (decide ((1073741824 : Int) < x12.Due))))) _ rfl ?_
                refine R.one rfl ?_
                refine W.det (.d (.v (.bool (decide ((1073741824 : Int) < x12.Due))))) _ rfl ?_
                refine R.nil ?_
                refine seqK.n ?_
                refine A.condB rfl h (fun _ h => ?_) (fun _ h => ?_)
                · refine A.seq rfl ?_
                  refine A.region ?_
                  refine R.one rfl ?_
                  refine W.det (.kb false) _ rfl ?_
                  refine R.nil ?_
                  refine seqK.n ?_
                  refine A.ret ?_
                  refine seqK.r ?_
                  refine blockK.r ?_
                  refine seqK.r ?_
                  refine headK.r ?_
                  refine blockK.r ?_
                  refine headK.r ?_
                  injection h with h
                  subst h
                  cases hG
                  exact ⟨rfl, trivial⟩
                · refine A.skip ?_
                  refine seqK.n ?_
                  refine A.region ?_
                  refine R.one rfl ?_
                  refine W.det (.mp 900000 1) _ rfl ?_
                  refine R.one rfl ?_
                  refine W.det (.lp 5 2 0) _ rfl ?_
                  refine R.one rfl ?_
                  refine W.det (.d (.v (.int .i64 x12.Id))) _ rfl ?_
                  refine R.one rfl ?_
                  refine W.mput (Value.int .i64) vB x12.Id true s3.2 (fun _ _ => rfl) rfl ?_
                  refine R.nil ?_
                  refine blockK.n ?_
                  refine seqK.n ?_
                  refine A.region ?_
                  refine R.one rfl ?_
                  refine W.det (.d (.v (.int .i64 (IntKind.i64.wrap (s3.1 + (1 : Int)))))) _ rfl ?_
                  refine R.one rfl ?_
                  refine W.det (.d (.v (.int .i64 (IntKind.i64.wrap (s3.1 + (1 : Int)))))) _ rfl ?_
                  refine R.nil ?_
                  injection h with h
                  subst h
                  exact headK.n hG (Enters.of [] [(900000, (900000, 1))] _ rfl rfl (chkE.c rfl rfl (chkE.c rfl rfl (chkE.c rfl rfl (chkE.c rfl rfl (chkE.c rfl rfl trivial))))) (chkM.c rfl rfl trivial))
    · refine A.exit ?_
      refine seqK.e ?_
      refine headK.e ?_
      refine blockK.x ?_
      injection h with h
      subst h
      exact headK.n hG (Enters.of [] [] _ rfl rfl (chkE.c rfl rfl trivial) trivial)
  · intro s2 r2 h hG
    refine A.seq rfl ?_
    refine A.region ?_
    refine R.one rfl ?_
    refine W.det (.d (.fz (List.map api_Job.enc jobs_))) _ rfl ?_
    refine R.one rfl ?_
    refine W.len rfl ?_
    refine R.one rfl ?_
    refine W.det (.d (.v (.bool (decide ((jobs_.length : Int) ≤ (1000 : Int)))))) _ rfl ?_
    refine R.one rfl ?_
    refine W.det (.d (.v (.bool (decide ((jobs_.length : Int) ≤ (1000 : Int)))))) _ rfl ?_
    refine R.nil ?_
    refine seqK.n ?_
    refine A.ret ?_
    injection h with h
    subst h
    cases hG
    exact ⟨rfl, trivial⟩
noncomputable def slices_Clone_api_Job_api_Job_a : Option ((List api_Job)) :=
  some ([] : List api_Job)
theorem slices_Clone_api_Job_api_Job_a_fn {r : (List api_Job)} (h : slices_Clone_api_Job_api_Job_a = some r) : Fn Try.prog 35 [.d (.v (.slice none 0 0))] (.ow 3 (List.map api_Job.enc r)) := by
  refine Fn.of_AW (F := FnX Try.prog) (base := 0) (js := []) mixed tok noeqs (fun _ _ _ h => h) Try.call35 Try.func35 rfl Try.ntmps35 (by rw [Try.results35]) (by simp) ?_
  have hG : (fun x => x = r) r := rfl
  unfold slices_Clone_api_Job_api_Job_a at h
  refine A.seq rfl ?_
  refine A.region ?_
  refine R.one rfl ?_
  refine W.det (.row 2 1 0) (Mem.add _ 2 (.rows 3 (List.map api_Job.enc ([] : List api_Job)) false)) rfl ?_
  refine R.nil ?_
  refine seqK.n ?_
  refine A.seq rfl ?_
  refine A.seq rfl ?_
  refine A.region ?_
  refine R.one rfl ?_
  refine W.det (.d (.v (.slice none 0 0))) _ rfl ?_
  refine R.one rfl ?_
  refine W.det (.d (.v (.bool true))) _ rfl ?_
  refine R.nil ?_
  refine seqK.n ?_
  refine A.condBT rfl ?_
  refine A.seq rfl ?_
  refine A.region ?_
  refine R.one rfl ?_
  refine W.det (.row 2 2 0) (Mem.add _ 2 (.rows 3 (List.map api_Job.enc ([] : List api_Job)) false)) rfl ?_
  refine R.nil ?_
  refine seqK.n ?_
  refine A.ret ?_
  refine seqK.r ?_
  injection h with h
  subst h
  cases hG
  exact ⟨rfl, rfl, trivial⟩
noncomputable def slices_Clone_api_Job_api_Job_b (a_ : Addr) (c_ : Nat) : Option ((List api_Job)) :=
  (chkO (decide (0 + ([] : List api_Job).length ≤ 1000000))).bind fun _ =>
  some (([] : List api_Job) ++ ([] : List api_Job))
theorem slices_Clone_api_Job_api_Job_b_fn {a_ : Addr} {c_ : Nat} {r : (List api_Job)} (h : slices_Clone_api_Job_api_Job_b a_ c_ = some r) : Fn Try.prog 35 [.d (.v (.slice (some a_) 0 c_))] (.ow 3 (List.map api_Job.enc r)) := by
  refine Fn.of_AW (F := FnX Try.prog) (base := 0) (js := []) mixed tok noeqs (fun _ _ _ h => h) Try.call35 Try.func35 rfl Try.ntmps35 (by rw [Try.results35]) (by simp) ?_
  have hG : (fun x => x = r) r := rfl
  unfold slices_Clone_api_Job_api_Job_b at h
  refine A.seq rfl ?_
  refine A.region ?_
  refine R.one rfl ?_
  refine W.det (.row 2 1 0) (Mem.add _ 2 (.rows 3 (List.map api_Job.enc ([] : List api_Job)) false)) rfl ?_
  refine R.nil ?_
  refine seqK.n ?_
  refine A.seq rfl ?_
  refine A.seq rfl ?_
  refine A.region ?_
  refine R.one rfl ?_
  refine W.det (.d (.v (.slice (some a_) 0 c_))) _ rfl ?_
  refine R.one rfl ?_
  refine W.det (.d (.v (.bool false))) _ rfl ?_
  refine R.nil ?_
  refine seqK.n ?_
  refine A.condBF rfl ?_
  refine A.skip ?_
  refine seqK.n ?_
  refine A.seq rfl ?_
  refine A.region ?_
  refine R.one rfl ?_
  refine W.det (.row 5 1 0) (Mem.add _ 5 (.rows 3 (List.map api_Job.enc ([] : List api_Job)) false)) rfl ?_
  refine R.one rfl ?_
  refine W.det (.d (.v (.slice (some a_) 0 c_))) _ rfl ?_
  refine R.one rfl ?_
  refine chkK h fun g1 h => ?_
  refine W.chk rfl ⟨fun _ hc => (by cases hc), of_decide_eq_true g1⟩ ?_
  refine W.rows (0 + (List.map api_Job.enc ([] : List api_Job)).length) (([] : List api_Job) ++ ([] : List api_Job)).length ([] ++ (List.map api_Job.enc ([] : List api_Job))) (List.map api_Job.enc (([] : List api_Job) ++ ([] : List api_Job))) rfl (by first | rfl | simp) (by first | rfl | simp) ?_
  refine R.one rfl ?_
  refine W.det (.row 5 2 (([] : List api_Job) ++ ([] : List api_Job)).length) _ rfl ?_
  refine R.nil ?_
  refine seqK.n ?_
  refine A.ret ?_
  injection h with h
  subst h
  cases hG
  exact ⟨rfl, rfl, trivial⟩
noncomputable def slices_Clone_api_Job_api_Job_c (x_ : api_Job) (s_ : (List api_Job)) : Option ((List api_Job)) :=
  (chkO (decide (0 + (x_ :: s_).length ≤ 1000000))).bind fun _ =>
  some (([] : List api_Job) ++ (x_ :: s_))
theorem slices_Clone_api_Job_api_Job_c_fn {x_ : api_Job} {s_ : (List api_Job)} {r : (List api_Job)} (h : slices_Clone_api_Job_api_Job_c x_ s_ = some r) : Fn Try.prog 35 [.d (.fz (List.map api_Job.enc (x_ :: s_)))] (.ow 3 (List.map api_Job.enc r)) := by
  refine Fn.of_AW (F := FnX Try.prog) (base := 0) (js := []) mixed tok noeqs (fun _ _ _ h => h) Try.call35 Try.func35 rfl Try.ntmps35 (by rw [Try.results35]) (by simp) ?_
  have hG : (fun x => x = r) r := rfl
  unfold slices_Clone_api_Job_api_Job_c at h
  refine A.seq rfl ?_
  refine A.region ?_
  refine R.one rfl ?_
  refine W.det (.row 2 1 0) (Mem.add _ 2 (.rows 3 (List.map api_Job.enc ([] : List api_Job)) false)) rfl ?_
  refine R.nil ?_
  refine seqK.n ?_
  refine A.seq rfl ?_
  refine A.seq rfl ?_
  refine A.region ?_
  refine R.one rfl ?_
  refine W.det (.d (.fz (List.map api_Job.enc (x_ :: s_)))) _ rfl ?_
  refine R.one rfl ?_
  refine W.det (.d (.v (.bool false))) _ rfl ?_
  refine R.nil ?_
  refine seqK.n ?_
  refine A.condBF rfl ?_
  refine A.skip ?_
  refine seqK.n ?_
  refine A.seq rfl ?_
  refine A.region ?_
  refine R.one rfl ?_
  refine W.det (.row 5 1 0) (Mem.add _ 5 (.rows 3 (List.map api_Job.enc ([] : List api_Job)) false)) rfl ?_
  refine R.one rfl ?_
  refine W.det (.d (.fz (List.map api_Job.enc (x_ :: s_)))) _ rfl ?_
  refine R.one rfl ?_
  refine chkK h fun g1 h => ?_
  refine W.chk rfl (appChk (fun _ => rfl) g1) ?_
  refine W.rows (0 + (List.map api_Job.enc (x_ :: s_)).length) (([] : List api_Job) ++ (x_ :: s_)).length ([] ++ (List.map api_Job.enc (x_ :: s_))) (List.map api_Job.enc (([] : List api_Job) ++ (x_ :: s_))) rfl (by first | rfl | simp) (by first | rfl | simp) ?_
  refine R.one rfl ?_
  refine W.det (.row 5 2 (([] : List api_Job) ++ (x_ :: s_)).length) _ rfl ?_
  refine R.nil ?_
  refine seqK.n ?_
  refine A.ret ?_
  injection h with h
  subst h
  cases hG
  exact ⟨rfl, rfl, trivial⟩
noncomputable def slices_Clone_api_Job_api_Job (s_ : List api_Job) : Option (List api_Job) := (chkO (decide (s_.length ≤ 1000000))).bind fun _ => some s_
theorem slices_Clone_api_Job_api_Job_fn {s_ r : List api_Job} (h : slices_Clone_api_Job_api_Job s_ = some r) : Fn Try.prog 35 [.d (.fz (List.map api_Job.enc s_))] (.ow 3 (List.map api_Job.enc r)) := by
  have e : s_ = r := cloneE h
  subst e
  cases s_ with
  | nil => exact Fn.slice0 (slices_Clone_api_Job_api_Job_a_fn rfl) fun a c => slices_Clone_api_Job_api_Job_b_fn (a_ := a) (c_ := c) rfl
  | cons x s =>
    refine slices_Clone_api_Job_api_Job_c_fn ?_
    unfold slices_Clone_api_Job_api_Job at h
    unfold slices_Clone_api_Job_api_Job_c
    simpa only [List.nil_append, Nat.zero_add] using h
theorem slices_SortFunc_api_Job_api_Job_fn {c : api_Job → api_Job → Option Int} {cF : FuncId} {cC : List AV} (cH : cC.all capd = true) (cP : ∀ (q0 q1 : api_Job) (z : Int), c q0 q1 = some z → Fn Try.prog cF ([.agg [.d (.v (.int .i64 q0.Id)), .d (.v (.int .i64 q0.Size)), .d (.v (.int .i64 q0.Due))], .agg [.d (.v (.int .i64 q1.Id)), .d (.v (.int .i64 q1.Size)), .d (.v (.int .i64 q1.Due))]] ++ cC) (.d (.v (.int .i64 z)))) {l r : List api_Job} (h : sortF c l = some r) : FnW Try.prog 36 3 (List.map api_Job.enc l) [.fn cF cC] (.ow 3 (List.map api_Job.enc r)) :=
  sortF_fnw api_Job.enc (fun _ => rfl) (by decide) Try.call36 (fun α _ enc hk h1 cf hO g cb blk off cap d w eg hcmp hH hblk hsz => AnyQ.slices_SortFunc Try.sort36 3 Try.isAgg40 Try.sizeOf40 enc hk h1 cf hO g cb blk off cap d w eg hcmp hH hblk hsz) (fun p cap fv w => AnyF.slices_SortFunc_none Try.sort36 p cap fv w) cH cP h
noncomputable def cmp_isNaN_int (x_ : Int) : Option (Bool) :=
  some (x_ != x_)
theorem cmp_isNaN_int_fn {x_ : Int} {r : Bool} (h : cmp_isNaN_int x_ = some r) : Fn Try.prog 50 [.d (.v (.int .i64 x_))] (.d (.v (.bool r))) := by
  refine Fn.of_AW (F := FnX Try.prog) (base := 0) (js := []) mixed tok noeqs (fun _ _ _ h => h) Try.call50 Try.func50 rfl Try.ntmps50 (by rw [Try.results50]) (by simp) ?_
  have hG : (fun x => x = r) r := rfl
  unfold cmp_isNaN_int at h
  refine A.seq rfl ?_
  refine A.region ?_
  refine R.one rfl ?_
  refine W.det (.kb false) _ rfl ?_
  refine R.nil ?_
  refine seqK.n ?_
  refine A.seq rfl ?_
  refine A.region ?_
  refine R.one rfl ?_
  refine W.det (.d (.v (.int .i64 x_))) _ rfl ?_
  refine R.one rfl ?_
  refine W.det (.d (.v (.int .i64 x_))) _ rfl ?_
  refine R.one rfl ?_
  refine W.det (.d (.v (.bool (x_ != x_)))) _ rfl ?_
  refine R.one rfl ?_
  refine W.det (.d (.v (.bool (x_ != x_)))) _ rfl ?_
  refine R.nil ?_
  refine seqK.n ?_
  refine A.ret ?_
  injection h with h
  subst h
  cases hG
  exact ⟨rfl, trivial⟩
noncomputable def cmp_Compare_int (x_ : Int) (y_ : Int) : Option (Int) :=
  (cmp_isNaN_int x_).bind fun y1 =>
  (cmp_isNaN_int y_).bind fun y2 =>
  (bif y1 then
    (bif y2 then
      some (0 : Int)
    else
      some (-1 : Int))
  else
    (bif y2 then
      some (1 : Int)
    else
      (bif (decide (x_ < y_)) then
        some (-1 : Int)
      else
        (bif (decide (y_ < x_)) then
          some (1 : Int)
        else
          some (0 : Int)))))
theorem cmp_Compare_int_fn {x_ : Int} {y_ : Int} {r : Int} (h : cmp_Compare_int x_ y_ = some r) : Fn Try.prog 39 [.d (.v (.int .i64 x_)), .d (.v (.int .i64 y_))] (.d (.v (.int .i64 r))) := by
  refine Fn.of_AW (F := FnX Try.prog) (base := 0) (js := []) mixed tok noeqs (fun _ _ _ h => h) Try.call39 Try.func39 rfl Try.ntmps39 (by rw [Try.results39]) (by simp) ?_
  have hG : (fun x => x = r) r := rfl
  unfold cmp_Compare_int at h
  refine A.seq rfl ?_
  refine A.region ?_
  refine R.one rfl ?_
  refine W.det (.d (.v (.int .i64 (0 : Int)))) _ rfl ?_
  refine R.nil ?_
  refine seqK.n ?_
  refine A.seq rfl ?_
  refine A.region ?_
  refine R.one rfl ?_
  refine W.det (.d (.v (.int .i64 x_))) _ rfl ?_
  refine R.one rfl ?_
  refine bindK h fun y1 hy1 h => ?_
  refine W.call rfl (cmp_isNaN_int_fn hy1) ?_
  refine W.det (.d (.v (.bool y1))) _ rfl ?_
  refine R.one rfl ?_
  refine W.det (.d (.v (.bool y1))) _ rfl ?_
  refine R.nil ?_
  refine seqK.n ?_
  refine A.seq rfl ?_
  refine A.region ?_
  refine R.one rfl ?_
  refine W.det (.d (.v (.int .i64 y_))) _ rfl ?_
  refine R.one rfl ?_
  refine bindK h fun y2 hy2 h => ?_
  refine W.call rfl (cmp_isNaN_int_fn hy2) ?_
  refine W.det (.d (.v (.bool y2))) _ rfl ?_
  refine R.one rfl ?_
  refine W.det (.d (.v (.bool y2))) _ rfl ?_
  refine R.nil ?_
  refine seqK.n ?_
  refine A.seq rfl ?_
  refine A.seq rfl ?_
  refine A.region ?_
  refine R.one rfl ?_
  refine W.det (.d (.v (.bool y1))) _ rfl ?_
  refine R.nil ?_
  refine seqK.n ?_
  refine A.condB rfl h (fun _ h => ?_) (fun _ h => ?_)
  · refine A.seq rfl ?_
    refine A.seq rfl ?_
    refine A.region ?_
    refine R.one rfl ?_
    refine W.det (.d (.v (.bool y2))) _ rfl ?_
    refine R.nil ?_
    refine seqK.n ?_
    refine A.condB rfl h (fun _ h => ?_) (fun _ h => ?_)
    · refine A.seq rfl ?_
      refine A.region ?_
      refine R.one rfl ?_
      refine W.det (.d (.v (.int .i64 (0 : Int)))) _ rfl ?_
      refine R.nil ?_
      refine seqK.n ?_
      refine A.ret ?_
      refine seqK.r ?_
      refine seqK.r ?_
      injection h with h
      subst h
      cases hG
      exact ⟨rfl, trivial⟩
    · refine A.skip ?_
      refine seqK.n ?_
      refine A.seq rfl ?_
      refine A.region ?_
      refine R.one rfl ?_
      refine W.det (.d (.v (.int .i64 (-1 : Int)))) _ rfl ?_
      refine R.nil ?_
      refine seqK.n ?_
      refine A.ret ?_
      refine seqK.r ?_
      injection h with h
      subst h
      cases hG
      exact ⟨rfl, trivial⟩
  · refine A.skip ?_
    refine seqK.n ?_
    refine A.seq rfl ?_
    refine A.seq rfl ?_
    refine A.region ?_
    refine R.one rfl ?_
    refine W.det (.d (.v (.bool y2))) _ rfl ?_
    refine R.nil ?_
    refine seqK.n ?_
    refine A.condB rfl h (fun _ h => ?_) (fun _ h => ?_)
    · refine A.seq rfl ?_
      refine A.region ?_
      refine R.one rfl ?_
      refine W.det (.d (.v (.int .i64 (1 : Int)))) _ rfl ?_
      refine R.nil ?_
      refine seqK.n ?_
      refine A.ret ?_
      refine seqK.r ?_
      injection h with h
      subst h
      cases hG
      exact ⟨rfl, trivial⟩
    · refine A.skip ?_
      refine seqK.n ?_
      refine A.seq rfl ?_
      refine A.seq rfl ?_
      refine A.region ?_
      refine R.one rfl ?_
      refine W.det (.d (.v (.int .i64 x_))) _ rfl ?_
      refine R.one rfl ?_
      refine W.det (.d (.v (.int .i64 y_))) _ rfl ?_
      refine R.one rfl ?_
      refine W.det (.d (.v (.bool (decide (x_ < y_))))) _ rfl ?_
      refine R.nil ?_
      refine seqK.n ?_
      refine A.condB rfl h (fun _ h => ?_) (fun _ h => ?_)
      · refine A.seq rfl ?_
        refine A.region ?_
        refine R.one rfl ?_
        refine W.det (.d (.v (.int .i64 (-1 : Int)))) _ rfl ?_
        refine R.nil ?_
        refine seqK.n ?_
        refine A.ret ?_
        refine seqK.r ?_
        injection h with h
        subst h
        cases hG
        exact ⟨rfl, trivial⟩
      · refine A.skip ?_
        refine seqK.n ?_
        refine A.seq rfl ?_
        refine A.seq rfl ?_
        refine A.region ?_
        refine R.one rfl ?_
        refine W.det (.d (.v (.int .i64 x_))) _ rfl ?_
        refine R.one rfl ?_
        refine W.det (.d (.v (.int .i64 y_))) _ rfl ?_
        refine R.one rfl ?_
        refine W.det (.d (.v (.bool (decide (y_ < x_))))) _ rfl ?_
        refine R.nil ?_
        refine seqK.n ?_
        refine A.condB rfl h (fun _ h => ?_) (fun _ h => ?_)
        · refine A.seq rfl ?_
          refine A.region ?_
          refine R.one rfl ?_
          refine W.det (.d (.v (.int .i64 (1 : Int)))) _ rfl ?_
          refine R.nil ?_
          refine seqK.n ?_
          refine A.ret ?_
          refine seqK.r ?_
          injection h with h
          subst h
          cases hG
          exact ⟨rfl, trivial⟩
        · refine A.skip ?_
          refine seqK.n ?_
          refine A.seq rfl ?_
          refine A.region ?_
          refine R.one rfl ?_
          refine W.det (.d (.v (.int .i64 (0 : Int)))) _ rfl ?_
          refine R.nil ?_
          refine seqK.n ?_
          refine A.ret ?_
          injection h with h
          subst h
          cases hG
          exact ⟨rfl, trivial⟩
noncomputable def cmp_Or_int_L1 (vals_ : (List Int)) (s3 : Int) : Option ((Int) ⊕ ((Unit) ⊕ (Int))) :=
  (bif (decide (s3 < (vals_.length : Int))) then
    (getI vals_ s3).bind fun x12 =>
    (bif (x12 != (0 : Int)) then
      some (.inr (.inr x12))
    else
      some (.inl (IntKind.i64.wrap (s3 + (1 : Int)))))
  else
    some (.inr (.inl ())))
noncomputable def cmp_Or_int (vals_ : (List Int)) : Option (Int) :=
  (seqF (A := Unit) (
    loopF (cmp_Or_int_L1 vals_) (0 : Int))
  fun s2 =>
    some (0 : Int))
theorem cmp_Or_int_fn {vals_ : (List Int)} {r : Int} (h : cmp_Or_int vals_ = some r) : Fn Try.prog 38 [.d (.fz (List.map (encI .i64) vals_))] (.d (.v (.int .i64 r))) := by
  refine Fn.of_AW (F := FnX Try.prog) (base := 0) (js := [8]) mixed tok noeqs (fun _ _ _ h => h) Try.call38 Try.func38 rfl Try.ntmps38 (by rw [Try.results38]) (by simp) ?_
  have hG : (fun x => x = r) r := rfl
  unfold cmp_Or_int at h
  refine A.seq rfl ?_
  refine A.region ?_
  refine R.one rfl ?_
  refine W.det (.d (.v (.int .i64 (0 : Int)))) _ rfl ?_
  refine R.nil ?_
  refine seqK.n ?_
  refine A.seq rfl ?_
  refine A.region ?_
  refine R.one rfl ?_
  refine W.det (.d (.v (.int .i64 (0 : Int)))) _ rfl ?_
  refine R.nil ?_
  refine seqK.n ?_
  refine A.join (fun (s2 : Unit) => [(3, .d (.v (.int .i64 (0 : Int))))]) (fun s2 => []) _ h hG rfl ?_ ?_
  · intro J f h hG
    refine A.seq rfl ?_
    refine A.region ?_
    refine R.one rfl ?_
    refine W.det (.d (.fz (List.map (encI .i64) vals_))) _ rfl ?_
    refine R.one rfl ?_
    refine W.len rfl ?_
    refine R.one rfl ?_
    refine W.det (.d (.v (.int .i64 (0 : Int)))) _ rfl ?_
    refine R.nil ?_
    refine seqK.n ?_
    refine A.block ?_
    refine A.loop (fun (s3 : Int) => [(3, .d (.v (.int .i64 (0 : Int)))), (6, .d (.fz (List.map (encI .i64) vals_))), (7, .d (.v (.int .i64 (vals_.length : Int)))), (8, .d (.v (.int .i64 s3)))]) (fun s3 => []) _ h hG (Enters.of [] [] _ rfl rfl (chkE.c rfl rfl (chkE.c rfl rfl (chkE.c rfl rfl (chkE.c rfl rfl trivial)))) trivial) ?_
    intro J s3 f h hG
    unfold cmp_Or_int_L1 at h
    refine A.seq rfl ?_
    refine A.region ?_
    refine R.one rfl ?_
    refine W.det (.d (.v (.bool (decide (s3 < (vals_.length : Int)))))) _ rfl ?_
    refine R.nil ?_
    refine seqK.n ?_
    refine A.seq rfl ?_
    refine A.condB rfl h (fun _ h => ?_) (fun _ h => ?_)
    · refine A.skip ?_
      refine seqK.n ?_
      refine A.seq rfl ?_
      refine A.block ?_
      refine A.seq rfl ?_
      refine A.region ?_
      refine R.one rfl ?_
      refine bindK h fun x12 hx12 h => ?_
      refine W.chk rfl (elemB hx12) ?_
      refine W.elem rfl (elemG hx12) ?_
      refine W.chk rfl rfl ?_
      refine W.det (.fp [.v (.int .i64 x12)]) _ rfl ?_
      refine R.one rfl ?_
      refine W.det (.d (.v (.int .i64 x12))) _ rfl ?_
      refine R.one rfl ?_
      refine W.det (.d (.v (.int .i64 x12))) _ rfl ?_
      refine R.nil ?_
      refine seqK.n ?_
      refine A.seq rfl ?_
      refine A.region ?_
      refine R.one rfl ?_
      refine W.det (.d (.v (.int .i64 x12))) _ rfl ?_
      refine R.one rfl ?_
      refine W.det (.d (.v (.int .i64 (0 : Int)))) _ rfl ?_
      refine R.one rfl ?_
      refine W.det (.d (.v (.bool (x12 != (0 : Int))))) _ rfl ?_
      refine R.nil ?_
      refine seqK.n ?_
      refine A.condB rfl h (fun _ h => ?_) (fun _ h => ?_)
      · refine A.seq rfl ?_
        refine A.region ?_
        refine R.one rfl ?_
        refine W.det (.d (.v (.int .i64 x12))) _ rfl ?_
        refine R.one rfl ?_
        refine W.det (.d (.v (.int .i64 x12))) _ rfl ?_
        refine R.nil ?_
        refine seqK.n ?_
        refine A.ret ?_
        refine blockK.r ?_
        refine seqK.r ?_
        refine headK.r ?_
        refine blockK.r ?_
        refine headK.r ?_
        injection h with h
        subst h
        cases hG
        exact ⟨rfl, trivial⟩
      · refine A.skip ?_
        refine blockK.n ?_
        refine seqK.n ?_
        refine A.region ?_
        refine R.one rfl ?_
        refine W.det (.d (.v (.int .i64 (IntKind.i64.wrap (s3 + (1 : Int)))))) _ rfl ?_
        refine R.one rfl ?_
        refine W.det (.d (.v (.int .i64 (IntKind.i64.wrap (s3 + (1 : Int)))))) _ rfl ?_
        refine R.nil ?_
        injection h with h
        subst h
        exact headK.n hG (Enters.of [] [] _ rfl rfl (chkE.c rfl rfl (chkE.c rfl rfl (chkE.c rfl rfl (chkE.c rfl rfl trivial)))) trivial)
    · refine A.exit ?_
      refine seqK.e ?_
      refine headK.e ?_
      refine blockK.x ?_
      injection h with h
      subst h
      exact headK.n hG (Enters.of [] [] _ rfl rfl (chkE.c rfl rfl trivial) trivial)
  · intro s2 r2 h hG
    refine A.seq rfl ?_
    refine A.region ?_
    refine R.one rfl ?_
    refine W.det (.d (.v (.int .i64 (0 : Int)))) _ rfl ?_
    refine R.one rfl ?_
    refine W.det (.d (.v (.int .i64 (0 : Int)))) _ rfl ?_
    refine R.nil ?_
    refine seqK.n ?_
    refine A.ret ?_
    injection h with h
    subst h
    cases hG
    exact ⟨rfl, trivial⟩
noncomputable def admit_demands_1 (a_ : api_Job) (b_ : api_Job) : Option (Int) :=
  (cmp_Compare_int a_.Due b_.Due).bind fun y1 =>
  (cmp_Compare_int a_.Id b_.Id).bind fun y2 =>
  (cmp_Or_int [y1, y2]).bind fun y3 =>
  some y3
theorem admit_demands_1_fn {a_ : api_Job} {b_ : api_Job} {r : Int} (h : admit_demands_1 a_ b_ = some r) : Fn Try.prog 37 [.agg [.d (.v (.int .i64 a_.Id)), .d (.v (.int .i64 a_.Size)), .d (.v (.int .i64 a_.Due))], .agg [.d (.v (.int .i64 b_.Id)), .d (.v (.int .i64 b_.Size)), .d (.v (.int .i64 b_.Due))]] (.d (.v (.int .i64 r))) := by
  refine Fn.of_AW (F := FnX Try.prog) (base := 0) (js := []) mixed tok noeqs (fun _ _ _ h => h) Try.call37 Try.func37 rfl Try.ntmps37 (by rw [Try.results37]) (by simp) ?_
  have hG : (fun x => x = r) r := rfl
  unfold admit_demands_1 at h
  refine A.seq rfl ?_
  refine A.region ?_
  refine R.one rfl ?_
  refine W.det (.lp 2 1 0) (Mem.add _ 2 (.box [.d (.v (.int .i64 a_.Id)), .d (.v (.int .i64 a_.Size)), .d (.v (.int .i64 a_.Due))])) rfl ?_
  refine R.one rfl ?_
  refine W.det (.lp 3 1 0) (Mem.add _ 3 (.box [.d (.v (.int .i64 b_.Id)), .d (.v (.int .i64 b_.Size)), .d (.v (.int .i64 b_.Due))])) rfl ?_
  refine R.one rfl ?_
  refine W.det (.d (.v (.int .i64 (0 : Int)))) _ rfl ?_
  refine R.nil ?_
  refine seqK.n ?_
  refine A.seq rfl ?_
  refine A.regionD (by kernel_rfl) ?_
  refine R.one rfl ?_
  refine W.det (.lp 2 1 2) _ rfl ?_
  refine R.one rfl ?_
  refine W.det (.d (.v (.int .i64 a_.Due))) _ rfl ?_
  refine R.one rfl ?_
  refine W.det (.lp 3 1 2) _ rfl ?_
  refine R.one rfl ?_
  refine W.det (.d (.v (.int .i64 b_.Due))) _ rfl ?_
  refine R.one rfl ?_
  refine bindK h fun y1 hy1 h => ?_
  refine W.call rfl (cmp_Compare_int_fn hy1) ?_
  refine W.det (.d (.v (.int .i64 y1))) _ rfl ?_
  refine R.one rfl ?_
  refine W.det (.lp 2 1 0) _ rfl ?_
  refine R.one rfl ?_
  refine W.det (.d (.v (.int .i64 a_.Id))) _ rfl ?_
  refine R.one rfl ?_
  refine W.det (.lp 3 1 0) _ rfl ?_
  refine R.one rfl ?_
  refine W.det (.d (.v (.int .i64 b_.Id))) _ rfl ?_
  refine R.one rfl ?_
  refine bindK h fun y2 hy2 h => ?_
  refine W.call rfl (cmp_Compare_int_fn hy2) ?_
  refine W.det (.d (.v (.int .i64 y2))) _ rfl ?_
  refine R.one rfl ?_
  refine W.det (.row 15 1 2) (Mem.add _ 15 (.rows 1 (List.map (encI .i64) [y1, y2]) false)) rfl ?_
  refine R.one rfl ?_
  refine bindK h fun y3 hy3 h => ?_
  refine W.call rfl (cmp_Or_int_fn hy3) ?_
  refine W.det (.d (.v (.int .i64 y3))) _ rfl ?_
  refine R.one rfl ?_
  refine W.det (.d (.v (.int .i64 y3))) _ rfl ?_
  refine R.nil ?_
  refine seqK.n ?_
  refine A.ret ?_
  injection h with h
  subst h
  cases hG
  exact ⟨rfl, trivial⟩
noncomputable def supply_places (p_ : api_Profile) (steps_ : Int) : Option (Int × Int) :=
  (bif (decide ((0 : Int) < steps_)) then
    (chkO (steps_ != 0)).bind fun _ =>
    (bif (decide ((IntKind.i64.wrap (Int.tdiv (4503599627370496 : Int) steps_)) < p_.Rate)) then
      some ((0 : Int), (3 : Int))
    else
      some ((IntKind.i64.wrap (p_.Rate * steps_)), (0 : Int)))
  else
    some ((IntKind.i64.wrap (p_.Rate * steps_)), (0 : Int)))
theorem supply_places_fn {p_ : api_Profile} {steps_ : Int} {r : Int × Int} (h : supply_places p_ steps_ = some r) : Fn Try.prog 33 [.agg [.d (.v (.string p_.Name)), .d (.v (.int .i64 p_.Edit)), .d (.v (.int .i64 p_.Within)), .d (.v (.int .i64 p_.Delete)), .d (.v (.bool p_.React)), .d (.v (.int .i64 p_.Thread)), .d (.v (.bool p_.Quote)), .d (.v (.bool p_.Mention)), .d (.v (.int .i64 p_.Size)), .d (.v (.int .i64 p_.Parts)), .d (.v (.int .i64 p_.Files)), .d (.v (.int .i64 p_.Bytes)), .d (.fz (List.map encS p_.Types)), .d (.v (.int .i64 p_.Join)), .d (.v (.int .i64 p_.History)), .d (.v (.int .i64 p_.Remove)), .d (.v (.int .i64 p_.Level)), .d (.v (.bool p_.Batch)), .d (.v (.int .i64 p_.Rate)), .d (.v (.int .i64 p_.Down)), .d (.v (.int .i64 p_.Window)), .d (.v (.int .i64 p_.Keep))], .d (.v (.int .i64 steps_))] (.tup [.d (.v (.int .i64 r.1)), .d (.v (.int .i64 r.2))]) := by
  refine Fn.of_AW (F := FnX Try.prog) (base := 0) (js := []) mixed tok noeqs (fun _ _ _ h => h) Try.call33 Try.func33 rfl Try.ntmps33 (by rw [Try.results33]) (by simp) ?_
  have hG : (fun x => x = r) r := rfl
  unfold supply_places at h
  refine A.seq rfl ?_
  refine A.region ?_
  refine R.one rfl ?_
  refine W.det (.lp 2 1 0) (Mem.add _ 2 (.box [.d (.v (.string p_.Name)), .d (.v (.int .i64 p_.Edit)), .d (.v (.int .i64 p_.Within)), .d (.v (.int .i64 p_.Delete)), .d (.v (.bool p_.React)), .d (.v (.int .i64 p_.Thread)), .d (.v (.bool p_.Quote)), .d (.v (.bool p_.Mention)), .d (.v (.int .i64 p_.Size)), .d (.v (.int .i64 p_.Parts)), .d (.v (.int .i64 p_.Files)), .d (.v (.int .i64 p_.Bytes)), .d (.fz (List.map encS p_.Types)), .d (.v (.int .i64 p_.Join)), .d (.v (.int .i64 p_.History)), .d (.v (.int .i64 p_.Remove)), .d (.v (.int .i64 p_.Level)), .d (.v (.bool p_.Batch)), .d (.v (.int .i64 p_.Rate)), .d (.v (.int .i64 p_.Down)), .d (.v (.int .i64 p_.Window)), .d (.v (.int .i64 p_.Keep))])) rfl ?_
  refine R.one rfl ?_
  refine W.det (.d (.v (.int .i64 (0 : Int)))) _ rfl ?_
  refine R.one rfl ?_
  refine W.det (.d (.v (.int .i64 (0 : Int)))) _ rfl ?_
  refine R.nil ?_
  refine seqK.n ?_
  refine A.seq rfl ?_
  refine A.seq rfl ?_
  refine A.regionD (by kernel_rfl) ?_
  refine R.one rfl ?_
  refine W.det (.d (.v (.int .i64 steps_))) _ rfl ?_
  refine R.one rfl ?_
  refine W.det (.d (.v (.bool (decide ((0 : Int) < steps_))))) _ rfl ?_
  refine R.one rfl ?_
  refine W.det (.d (.v (.bool (decide ((0 : Int) < steps_))))) _ rfl ?_
  refine R.gT rfl rfl rfl h (fun _ h => ?_) (fun _ h => ?_)
  · refine W.det (.lp 2 1 18) _ rfl ?_
    refine R.run rfl rfl rfl ?_
    refine W.det (.d (.v (.int .i64 p_.Rate))) _ rfl ?_
    refine R.run rfl rfl rfl ?_
    refine W.det (.d (.v (.int .i64 steps_))) _ rfl ?_
    refine R.run rfl rfl rfl ?_
    refine chkK h fun g4 h => ?_
    refine W.chk rfl (by simpa using g4) ?_
    refine W.det (.d (.v (.int .i64 (IntKind.i64.wrap (Int.tdiv (4503599627370496 : Int) steps_))))) _ rfl ?_
    refine R.run rfl rfl rfl ?_
    refine W.det (.d (.v (.bool (decide ((IntKind.i64.wrap (Int.tdiv (4503599627370496 : Int) steps_)) < p_.Rate))))) _ rfl ?_
    refine R.one rfl ?_
    refine W.det (.d (.v (.bool (decide ((IntKind.i64.wrap (Int.tdiv (4503599627370496 : Int) steps_)) < p_.Rate))))) _ rfl ?_
    refine R.nil ?_
    refine seqK.n ?_
    refine A.condB rfl h (fun _ h => ?_) (fun _ h => ?_)
    · refine A.seq rfl ?_
      refine A.region ?_
      refine R.one rfl ?_
      refine W.det (.d (.v (.int .i64 (0 : Int)))) _ rfl ?_
      refine R.one rfl ?_
      refine W.det (.d (.v (.int .i64 (3 : Int)))) _ rfl ?_
      refine R.nil ?_
      refine seqK.n ?_
      refine A.ret ?_
      refine seqK.r ?_
      injection h with h
      subst h
      cases hG
      exact ⟨rfl, rfl, trivial⟩
    · refine A.skip ?_
      refine seqK.n ?_
      refine A.seq rfl ?_
      refine A.region ?_
      refine R.one rfl ?_
      refine W.det (.lp 2 1 18) _ rfl ?_
      refine R.one rfl ?_
      refine W.det (.d (.v (.int .i64 p_.Rate))) _ rfl ?_
      refine R.one rfl ?_
      refine W.det (.d (.v (.int .i64 steps_))) _ rfl ?_
      refine R.one rfl ?_
      refine W.det (.d (.v (.int .i64 (IntKind.i64.wrap (p_.Rate * steps_))))) _ rfl ?_
      refine R.one rfl ?_
      refine W.det (.d (.v (.int .i64 (IntKind.i64.wrap (p_.Rate * steps_))))) _ rfl ?_
      refine R.one rfl ?_
      refine W.det (.d (.v (.int .i64 (0 : Int)))) _ rfl ?_
      refine R.nil ?_
      refine seqK.n ?_
      refine A.ret ?_
      injection h with h
      subst h
      cases hG
      exact ⟨rfl, rfl, trivial⟩
  · refine R.skip rfl rfl rfl ?_
    refine R.skip rfl rfl rfl ?_
    refine R.skip rfl rfl rfl ?_
    refine R.skip rfl rfl rfl ?_
    refine R.one rfl ?_
    refine W.det (.kb false) _ rfl ?_
    refine R.nil ?_
    refine seqK.n ?_
    refine A.condF rfl ?_
    refine A.skip ?_
    refine seqK.n ?_
    refine A.seq rfl ?_
    refine A.region ?_
    refine R.one rfl ?_
    refine W.det (.lp 2 1 18) _ rfl ?_
    refine R.one rfl ?_
    refine W.det (.d (.v (.int .i64 p_.Rate))) _ rfl ?_
    refine R.one rfl ?_
    refine W.det (.d (.v (.int .i64 steps_))) _ rfl ?_
    refine R.one rfl ?_
    refine W.det (.d (.v (.int .i64 (IntKind.i64.wrap (p_.Rate * steps_))))) _ rfl ?_
    refine R.one rfl ?_
    refine W.det (.d (.v (.int .i64 (IntKind.i64.wrap (p_.Rate * steps_))))) _ rfl ?_
    refine R.one rfl ?_
    refine W.det (.d (.v (.int .i64 (0 : Int)))) _ rfl ?_
    refine R.nil ?_
    refine seqK.n ?_
    refine A.ret ?_
    injection h with h
    subst h
    cases hG
    exact ⟨rfl, rfl, trivial⟩
noncomputable def supply_Least (p_ : api_Profile) (t_ : Int) : Option (Int × Int) :=
  (profile_Check p_).bind fun y4 =>
  (bif (y4 != (0 : Int)) then
    some ((0 : Int), (1 : Int))
  else
    (bif (decide (t_ < (0 : Int))) then
      some ((0 : Int), (1 : Int))
    else
      (bif (decide ((1073741824 : Int) < t_)) then
        some ((0 : Int), (1 : Int))
      else
        (bif (decide ((0 : Int) < p_.Down)) then
          (chkO (p_.Window != 0)).bind fun _ =>
          (supply_places p_ (IntKind.i64.wrap (t_ - (IntKind.i64.wrap ((IntKind.i64.wrap ((IntKind.i64.wrap (Int.tdiv t_ p_.Window)) * p_.Down)) + (if p_.Down < (Int.tmod t_ p_.Window) then p_.Down else (Int.tmod t_ p_.Window))))))).bind fun y9 =>
          some (y9.1, y9.2)
        else
          (supply_places p_ (IntKind.i64.wrap (t_ - (0 : Int)))).bind fun y10 =>
          some (y10.1, y10.2)))))
theorem supply_Least_fn {p_ : api_Profile} {t_ : Int} {r : Int × Int} (h : supply_Least p_ t_ = some r) : Fn Try.prog 43 [.agg [.d (.v (.string p_.Name)), .d (.v (.int .i64 p_.Edit)), .d (.v (.int .i64 p_.Within)), .d (.v (.int .i64 p_.Delete)), .d (.v (.bool p_.React)), .d (.v (.int .i64 p_.Thread)), .d (.v (.bool p_.Quote)), .d (.v (.bool p_.Mention)), .d (.v (.int .i64 p_.Size)), .d (.v (.int .i64 p_.Parts)), .d (.v (.int .i64 p_.Files)), .d (.v (.int .i64 p_.Bytes)), .d (.fz (List.map encS p_.Types)), .d (.v (.int .i64 p_.Join)), .d (.v (.int .i64 p_.History)), .d (.v (.int .i64 p_.Remove)), .d (.v (.int .i64 p_.Level)), .d (.v (.bool p_.Batch)), .d (.v (.int .i64 p_.Rate)), .d (.v (.int .i64 p_.Down)), .d (.v (.int .i64 p_.Window)), .d (.v (.int .i64 p_.Keep))], .d (.v (.int .i64 t_))] (.tup [.d (.v (.int .i64 r.1)), .d (.v (.int .i64 r.2))]) := by
  refine Fn.of_AW (F := FnX Try.prog) (base := 0) (js := []) mixed tok noeqs (fun _ _ _ h => h) Try.call43 Try.func43 rfl Try.ntmps43 (by rw [Try.results43]) (by simp) ?_
  have hG : (fun x => x = r) r := rfl
  unfold supply_Least at h
  refine A.seq rfl ?_
  refine A.region ?_
  refine R.one rfl ?_
  refine W.det (.lp 2 1 0) (Mem.add _ 2 (.box [.d (.v (.string p_.Name)), .d (.v (.int .i64 p_.Edit)), .d (.v (.int .i64 p_.Within)), .d (.v (.int .i64 p_.Delete)), .d (.v (.bool p_.React)), .d (.v (.int .i64 p_.Thread)), .d (.v (.bool p_.Quote)), .d (.v (.bool p_.Mention)), .d (.v (.int .i64 p_.Size)), .d (.v (.int .i64 p_.Parts)), .d (.v (.int .i64 p_.Files)), .d (.v (.int .i64 p_.Bytes)), .d (.fz (List.map encS p_.Types)), .d (.v (.int .i64 p_.Join)), .d (.v (.int .i64 p_.History)), .d (.v (.int .i64 p_.Remove)), .d (.v (.int .i64 p_.Level)), .d (.v (.bool p_.Batch)), .d (.v (.int .i64 p_.Rate)), .d (.v (.int .i64 p_.Down)), .d (.v (.int .i64 p_.Window)), .d (.v (.int .i64 p_.Keep))])) rfl ?_
  refine R.one rfl ?_
  refine W.det (.d (.v (.int .i64 (0 : Int)))) _ rfl ?_
  refine R.one rfl ?_
  refine W.det (.d (.v (.int .i64 (0 : Int)))) _ rfl ?_
  refine R.nil ?_
  refine seqK.n ?_
  refine A.seq rfl ?_
  refine A.seq rfl ?_
  refine A.region ?_
  refine R.one rfl ?_
  refine W.det (.agg [.d (.v (.string p_.Name)), .d (.v (.int .i64 p_.Edit)), .d (.v (.int .i64 p_.Within)), .d (.v (.int .i64 p_.Delete)), .d (.v (.bool p_.React)), .d (.v (.int .i64 p_.Thread)), .d (.v (.bool p_.Quote)), .d (.v (.bool p_.Mention)), .d (.v (.int .i64 p_.Size)), .d (.v (.int .i64 p_.Parts)), .d (.v (.int .i64 p_.Files)), .d (.v (.int .i64 p_.Bytes)), .d (.fz (List.map encS p_.Types)), .d (.v (.int .i64 p_.Join)), .d (.v (.int .i64 p_.History)), .d (.v (.int .i64 p_.Remove)), .d (.v (.int .i64 p_.Level)), .d (.v (.bool p_.Batch)), .d (.v (.int .i64 p_.Rate)), .d (.v (.int .i64 p_.Down)), .d (.v (.int .i64 p_.Window)), .d (.v (.int .i64 p_.Keep))]) _ rfl ?_
  refine R.one rfl ?_
  refine bindK h fun y4 hy4 h => ?_
  refine W.call rfl (profile_Check_fn hy4) ?_
  refine W.det (.d (.v (.int .i64 y4))) _ rfl ?_
  refine R.one rfl ?_
  refine W.det (.d (.v (.bool (y4 != (0 : Int))))) _ rfl ?_
  refine R.one rfl ?_
  refine W.det (.d (.v (.bool (y4 != (0 : Int))))) _ rfl ?_
  refine R.gF rfl rfl rfl h (fun _ h => ?_) (fun _ h => ?_)
  · refine R.skip rfl rfl rfl ?_
    refine R.one rfl ?_
    refine W.det (.kb true) _ rfl ?_
    refine R.one rfl ?_
    refine W.det (.kb true) _ rfl ?_
    refine R.skip rfl rfl rfl ?_
    refine R.skip rfl rfl rfl ?_
    refine R.one rfl ?_
    refine W.det (.kb true) _ rfl ?_
    refine R.nil ?_
    refine seqK.n ?_
    refine A.condT rfl ?_
    refine A.seq rfl ?_
    refine A.region ?_
    refine R.one rfl ?_
    refine W.det (.d (.v (.int .i64 (0 : Int)))) _ rfl ?_
    refine R.one rfl ?_
    refine W.det (.d (.v (.int .i64 (1 : Int)))) _ rfl ?_
    refine R.nil ?_
    refine seqK.n ?_
    refine A.ret ?_
    refine seqK.r ?_
    injection h with h
    subst h
    cases hG
    exact ⟨rfl, rfl, trivial⟩
  · refine W.det (.d (.v (.int .i64 t_))) _ rfl ?_
    refine R.run rfl rfl rfl ?_
    refine W.det (.d (.v (.bool (decide (t_ < (0 : Int)))))) _ rfl ?_
    refine R.one rfl ?_
    refine W.det (.d (.v (.bool (decide (t_ < (0 : Int)))))) _ rfl ?_
    refine R.one rfl ?_
    refine W.det (.d (.v (.bool (decide (t_ < (0 : Int)))))) _ rfl ?_
    refine R.gF rfl rfl rfl h (fun _ h => ?_) (fun _ h => ?_)
    · refine R.skip rfl rfl rfl ?_
      refine R.one rfl ?_
      refine W.det (.kb true) _ rfl ?_
      refine R.nil ?_
      refine seqK.n ?_
      refine A.condT rfl ?_
      refine A.seq rfl ?_
      refine A.region ?_
      refine R.one rfl ?_
      refine W.det (.d (.v (.int .i64 (0 : Int)))) _ rfl ?_
      refine R.one rfl ?_
      refine W.det (.d (.v (.int .i64 (1 : Int)))) _ rfl ?_
      refine R.nil ?_
      refine seqK.n ?_
      refine A.ret ?_
      refine seqK.r ?_
      injection h with h
      subst h
      cases hG
      exact ⟨rfl, rfl, trivial⟩
    · refine W.det (.d (.v (.int .i64 t_))) _ rfl ?_
      refine R.run rfl rfl rfl ?_
      refine W.det (.d (.v (.bool (decide ((1073741824 : Int) < t_))))) _ rfl ?_
      refine R.one rfl ?_
      refine W.det (.d (.v (.bool (decide ((1073741824 : Int) < t_))))) _ rfl ?_
      refine R.nil ?_
      refine seqK.n ?_
      refine A.condB rfl h (fun _ h => ?_) (fun _ h => ?_)
      · refine A.seq rfl ?_
        refine A.region ?_
        refine R.one rfl ?_
        refine W.det (.d (.v (.int .i64 (0 : Int)))) _ rfl ?_
        refine R.one rfl ?_
        refine W.det (.d (.v (.int .i64 (1 : Int)))) _ rfl ?_
        refine R.nil ?_
        refine seqK.n ?_
        refine A.ret ?_
        refine seqK.r ?_
        injection h with h
        subst h
        cases hG
        exact ⟨rfl, rfl, trivial⟩
      · refine A.skip ?_
        refine seqK.n ?_
        refine A.seq rfl ?_
        refine A.region ?_
        refine R.one rfl ?_
        refine W.det (.d (.v (.int .i64 (0 : Int)))) _ rfl ?_
        refine R.nil ?_
        refine seqK.n ?_
        refine A.seq rfl ?_
        refine A.seq rfl ?_
        refine A.region ?_
        refine R.one rfl ?_
        refine W.det (.lp 2 1 19) _ rfl ?_
        refine R.one rfl ?_
        refine W.det (.d (.v (.int .i64 p_.Down))) _ rfl ?_
        refine R.one rfl ?_
        refine W.det (.d (.v (.bool (decide ((0 : Int) < p_.Down))))) _ rfl ?_
        refine R.nil ?_
        refine seqK.n ?_
        refine A.condB rfl h (fun _ h => ?_) (fun _ h => ?_)
        · refine A.regionD (by kernel_rfl) ?_
          refine R.one rfl ?_
          refine W.det (.d (.v (.int .i64 t_))) _ rfl ?_
          refine R.one rfl ?_
          refine W.det (.lp 2 1 20) _ rfl ?_
          refine R.one rfl ?_
          refine W.det (.d (.v (.int .i64 p_.Window))) _ rfl ?_
          refine R.one rfl ?_
          refine chkK h fun g7 h => ?_
          refine W.chk rfl (by simpa using g7) ?_
          refine W.det (.d (.v (.int .i64 (IntKind.i64.wrap (Int.tdiv t_ p_.Window))))) _ rfl ?_
          refine R.one rfl ?_
          refine W.det (.lp 2 1 19) _ rfl ?_
          refine R.one rfl ?_
          refine W.det (.d (.v (.int .i64 p_.Down))) _ rfl ?_
          refine R.one rfl ?_
          refine W.det (.d (.v (.int .i64 (IntKind.i64.wrap ((IntKind.i64.wrap (Int.tdiv t_ p_.Window)) * p_.Down))))) _ rfl ?_
          refine R.one rfl ?_
          refine W.det (.d (.v (.int .i64 t_))) _ rfl ?_
          refine R.one rfl ?_
          refine W.det (.lp 2 1 20) _ rfl ?_
          refine R.one rfl ?_
          refine W.det (.d (.v (.int .i64 p_.Window))) _ rfl ?_
          refine R.one rfl ?_
          refine W.chk rfl (by simpa using g7) ?_
          refine W.det (.d (.v (.int .i64 (Int.tmod t_ p_.Window)))) _ rfl ?_
          refine R.one rfl ?_
          refine W.det (.lp 2 1 19) _ rfl ?_
          refine R.one rfl ?_
          refine W.det (.d (.v (.int .i64 p_.Down))) _ rfl ?_
          refine R.one rfl ?_
          refine W.det (.d (.v (.int .i64 (if p_.Down < (Int.tmod t_ p_.Window) then p_.Down else (Int.tmod t_ p_.Window))))) _ rfl ?_
          refine R.one rfl ?_
          refine W.det (.d (.v (.int .i64 (IntKind.i64.wrap ((IntKind.i64.wrap ((IntKind.i64.wrap (Int.tdiv t_ p_.Window)) * p_.Down)) + (if p_.Down < (Int.tmod t_ p_.Window) then p_.Down else (Int.tmod t_ p_.Window))))))) _ rfl ?_
          refine R.one rfl ?_
          refine W.det (.d (.v (.int .i64 (IntKind.i64.wrap ((IntKind.i64.wrap ((IntKind.i64.wrap (Int.tdiv t_ p_.Window)) * p_.Down)) + (if p_.Down < (Int.tmod t_ p_.Window) then p_.Down else (Int.tmod t_ p_.Window))))))) _ rfl ?_
          refine R.nil ?_
          refine seqK.n ?_
          refine A.seq rfl ?_
          refine A.region ?_
          refine R.one rfl ?_
          refine W.det (.agg [.d (.v (.string p_.Name)), .d (.v (.int .i64 p_.Edit)), .d (.v (.int .i64 p_.Within)), .d (.v (.int .i64 p_.Delete)), .d (.v (.bool p_.React)), .d (.v (.int .i64 p_.Thread)), .d (.v (.bool p_.Quote)), .d (.v (.bool p_.Mention)), .d (.v (.int .i64 p_.Size)), .d (.v (.int .i64 p_.Parts)), .d (.v (.int .i64 p_.Files)), .d (.v (.int .i64 p_.Bytes)), .d (.fz (List.map encS p_.Types)), .d (.v (.int .i64 p_.Join)), .d (.v (.int .i64 p_.History)), .d (.v (.int .i64 p_.Remove)), .d (.v (.int .i64 p_.Level)), .d (.v (.bool p_.Batch)), .d (.v (.int .i64 p_.Rate)), .d (.v (.int .i64 p_.Down)), .d (.v (.int .i64 p_.Window)), .d (.v (.int .i64 p_.Keep))]) _ rfl ?_
          refine R.one rfl ?_
          refine W.det (.d (.v (.int .i64 t_))) _ rfl ?_
          refine R.one rfl ?_
          refine W.det (.d (.v (.int .i64 (IntKind.i64.wrap ((IntKind.i64.wrap ((IntKind.i64.wrap (Int.tdiv t_ p_.Window)) * p_.Down)) + (if p_.Down < (Int.tmod t_ p_.Window) then p_.Down else (Int.tmod t_ p_.Window))))))) _ rfl ?_
          refine R.one rfl ?_
          refine W.det (.d (.v (.int .i64 (IntKind.i64.wrap (t_ - (IntKind.i64.wrap ((IntKind.i64.wrap ((IntKind.i64.wrap (Int.tdiv t_ p_.Window)) * p_.Down)) + (if p_.Down < (Int.tmod t_ p_.Window) then p_.Down else (Int.tmod t_ p_.Window))))))))) _ rfl ?_
          refine R.one rfl ?_
          refine bindK h fun y9 hy9 h => ?_
          refine W.call rfl (supply_places_fn hy9) ?_
          refine W.det (.tup [.d (.v (.int .i64 y9.1)), .d (.v (.int .i64 y9.2))]) _ rfl ?_
          refine R.one rfl ?_
          refine W.det (.d (.v (.int .i64 y9.1))) _ rfl ?_
          refine R.one rfl ?_
          refine W.det (.d (.v (.int .i64 y9.2))) _ rfl ?_
          refine R.one rfl ?_
          refine W.det (.d (.v (.int .i64 y9.1))) _ rfl ?_
          refine R.one rfl ?_
          refine W.det (.d (.v (.int .i64 y9.2))) _ rfl ?_
          refine R.nil ?_
          refine seqK.n ?_
          refine A.ret ?_
          injection h with h
          subst h
          cases hG
          exact ⟨rfl, rfl, trivial⟩
        · refine A.skip ?_
          refine seqK.n ?_
          refine A.seq rfl ?_
          refine A.region ?_
          refine R.one rfl ?_
          refine W.det (.agg [.d (.v (.string p_.Name)), .d (.v (.int .i64 p_.Edit)), .d (.v (.int .i64 p_.Within)), .d (.v (.int .i64 p_.Delete)), .d (.v (.bool p_.React)), .d (.v (.int .i64 p_.Thread)), .d (.v (.bool p_.Quote)), .d (.v (.bool p_.Mention)), .d (.v (.int .i64 p_.Size)), .d (.v (.int .i64 p_.Parts)), .d (.v (.int .i64 p_.Files)), .d (.v (.int .i64 p_.Bytes)), .d (.fz (List.map encS p_.Types)), .d (.v (.int .i64 p_.Join)), .d (.v (.int .i64 p_.History)), .d (.v (.int .i64 p_.Remove)), .d (.v (.int .i64 p_.Level)), .d (.v (.bool p_.Batch)), .d (.v (.int .i64 p_.Rate)), .d (.v (.int .i64 p_.Down)), .d (.v (.int .i64 p_.Window)), .d (.v (.int .i64 p_.Keep))]) _ rfl ?_
          refine R.one rfl ?_
          refine W.det (.d (.v (.int .i64 t_))) _ rfl ?_
          refine R.one rfl ?_
          refine W.det (.d (.v (.int .i64 (0 : Int)))) _ rfl ?_
          refine R.one rfl ?_
          refine W.det (.d (.v (.int .i64 (IntKind.i64.wrap (t_ - (0 : Int)))))) _ rfl ?_
          refine R.one rfl ?_
          refine bindK h fun y10 hy10 h => ?_
          refine W.call rfl (supply_places_fn hy10) ?_
          refine W.det (.tup [.d (.v (.int .i64 y10.1)), .d (.v (.int .i64 y10.2))]) _ rfl ?_
          refine R.one rfl ?_
          refine W.det (.d (.v (.int .i64 y10.1))) _ rfl ?_
          refine R.one rfl ?_
          refine W.det (.d (.v (.int .i64 y10.2))) _ rfl ?_
          refine R.one rfl ?_
          refine W.det (.d (.v (.int .i64 y10.1))) _ rfl ?_
          refine R.one rfl ?_
          refine W.det (.d (.v (.int .i64 y10.2))) _ rfl ?_
          refine R.nil ?_
          refine seqK.n ?_
          refine A.ret ?_
          injection h with h
          subst h
          cases hG
          exact ⟨rfl, rfl, trivial⟩
noncomputable def admit_gives (p_ : api_Profile) (now_ : Int) (due_ : Int) : Option (Int) :=
  (bif (decide (due_ < now_)) then
    some (0 : Int)
  else
    (supply_Least p_ (IntKind.i64.wrap (due_ - now_))).bind fun y1 =>
    (bif (y1.2 == (3 : Int)) then
      some (4503599627370496 : Int)
    else
      some y1.1))
theorem admit_gives_fn {p_ : api_Profile} {now_ : Int} {due_ : Int} {r : Int} (h : admit_gives p_ now_ due_ = some r) : Fn Try.prog 28 [.agg [.d (.v (.string p_.Name)), .d (.v (.int .i64 p_.Edit)), .d (.v (.int .i64 p_.Within)), .d (.v (.int .i64 p_.Delete)), .d (.v (.bool p_.React)), .d (.v (.int .i64 p_.Thread)), .d (.v (.bool p_.Quote)), .d (.v (.bool p_.Mention)), .d (.v (.int .i64 p_.Size)), .d (.v (.int .i64 p_.Parts)), .d (.v (.int .i64 p_.Files)), .d (.v (.int .i64 p_.Bytes)), .d (.fz (List.map encS p_.Types)), .d (.v (.int .i64 p_.Join)), .d (.v (.int .i64 p_.History)), .d (.v (.int .i64 p_.Remove)), .d (.v (.int .i64 p_.Level)), .d (.v (.bool p_.Batch)), .d (.v (.int .i64 p_.Rate)), .d (.v (.int .i64 p_.Down)), .d (.v (.int .i64 p_.Window)), .d (.v (.int .i64 p_.Keep))], .d (.v (.int .i64 now_)), .d (.v (.int .i64 due_))] (.d (.v (.int .i64 r))) := by
  refine Fn.of_AW (F := FnX Try.prog) (base := 0) (js := []) mixed tok noeqs (fun _ _ _ h => h) Try.call28 Try.func28 rfl Try.ntmps28 (by rw [Try.results28]) (by simp) ?_
  have hG : (fun x => x = r) r := rfl
  unfold admit_gives at h
  refine A.seq rfl ?_
  refine A.region ?_
  refine R.one rfl ?_
  refine W.det (.lp 3 1 0) (Mem.add _ 3 (.box [.d (.v (.string p_.Name)), .d (.v (.int .i64 p_.Edit)), .d (.v (.int .i64 p_.Within)), .d (.v (.int .i64 p_.Delete)), .d (.v (.bool p_.React)), .d (.v (.int .i64 p_.Thread)), .d (.v (.bool p_.Quote)), .d (.v (.bool p_.Mention)), .d (.v (.int .i64 p_.Size)), .d (.v (.int .i64 p_.Parts)), .d (.v (.int .i64 p_.Files)), .d (.v (.int .i64 p_.Bytes)), .d (.fz (List.map encS p_.Types)), .d (.v (.int .i64 p_.Join)), .d (.v (.int .i64 p_.History)), .d (.v (.int .i64 p_.Remove)), .d (.v (.int .i64 p_.Level)), .d (.v (.bool p_.Batch)), .d (.v (.int .i64 p_.Rate)), .d (.v (.int .i64 p_.Down)), .d (.v (.int .i64 p_.Window)), .d (.v (.int .i64 p_.Keep))])) rfl ?_
  refine R.one rfl ?_
  refine W.det (.d (.v (.int .i64 (0 : Int)))) _ rfl ?_
  refine R.nil ?_
  refine seqK.n ?_
  refine A.seq rfl ?_
  refine A.seq rfl ?_
  refine A.region ?_
  refine R.one rfl ?_
  refine W.det (.d (.v (.int .i64 due_))) _ rfl ?_
  refine R.one rfl ?_
  refine W.det (.d (.v (.int .i64 now_))) _ rfl ?_
  refine R.one rfl ?_
  refine W.det (.d (.v (.bool (decide (due_ < now_))))) _ rfl ?_
  refine R.nil ?_
  refine seqK.n ?_
  refine A.condB rfl h (fun _ h => ?_) (fun _ h => ?_)
  · refine A.seq rfl ?_
    refine A.region ?_
    refine R.one rfl ?_
    refine W.det (.d (.v (.int .i64 (0 : Int)))) _ rfl ?_
    refine R.nil ?_
    refine seqK.n ?_
    refine A.ret ?_
    refine seqK.r ?_
    injection h with h
    subst h
    cases hG
    exact ⟨rfl, trivial⟩
  · refine A.skip ?_
    refine seqK.n ?_
    refine A.seq rfl ?_
    refine A.region ?_
    refine R.one rfl ?_
    refine W.det (.agg [.d (.v (.string p_.Name)), .d (.v (.int .i64 p_.Edit)), .d (.v (.int .i64 p_.Within)), .d (.v (.int .i64 p_.Delete)), .d (.v (.bool p_.React)), .d (.v (.int .i64 p_.Thread)), .d (.v (.bool p_.Quote)), .d (.v (.bool p_.Mention)), .d (.v (.int .i64 p_.Size)), .d (.v (.int .i64 p_.Parts)), .d (.v (.int .i64 p_.Files)), .d (.v (.int .i64 p_.Bytes)), .d (.fz (List.map encS p_.Types)), .d (.v (.int .i64 p_.Join)), .d (.v (.int .i64 p_.History)), .d (.v (.int .i64 p_.Remove)), .d (.v (.int .i64 p_.Level)), .d (.v (.bool p_.Batch)), .d (.v (.int .i64 p_.Rate)), .d (.v (.int .i64 p_.Down)), .d (.v (.int .i64 p_.Window)), .d (.v (.int .i64 p_.Keep))]) _ rfl ?_
    refine R.one rfl ?_
    refine W.det (.d (.v (.int .i64 due_))) _ rfl ?_
    refine R.one rfl ?_
    refine W.det (.d (.v (.int .i64 now_))) _ rfl ?_
    refine R.one rfl ?_
    refine W.det (.d (.v (.int .i64 (IntKind.i64.wrap (due_ - now_))))) _ rfl ?_
    refine R.one rfl ?_
    refine bindK h fun y1 hy1 h => ?_
    refine W.call rfl (supply_Least_fn hy1) ?_
    refine W.det (.tup [.d (.v (.int .i64 y1.1)), .d (.v (.int .i64 y1.2))]) _ rfl ?_
    refine R.one rfl ?_
    refine W.det (.tup [.d (.v (.int .i64 y1.1)), .d (.v (.int .i64 y1.2))]) _ rfl ?_
    refine R.one rfl ?_
    refine W.det (.d (.v (.int .i64 y1.1))) _ rfl ?_
    refine R.one rfl ?_
    refine W.det (.d (.v (.int .i64 y1.2))) _ rfl ?_
    refine R.one rfl ?_
    refine W.det (.d (.v (.int .i64 y1.1))) _ rfl ?_
    refine R.one rfl ?_
    refine W.det (.d (.v (.int .i64 y1.2))) _ rfl ?_
    refine R.nil ?_
    refine seqK.n ?_
    refine A.seq rfl ?_
    refine A.seq rfl ?_
    refine A.region ?_
    refine R.one rfl ?_
    refine W.det (.d (.v (.int .i64 y1.2))) _ rfl ?_
    refine R.one rfl ?_
    refine W.det (.d (.v (.bool (y1.2 == (3 : Int))))) _ rfl ?_
    refine R.nil ?_
    refine seqK.n ?_
    refine A.condB rfl h (fun _ h => ?_) (fun _ h => ?_)
    · refine A.seq rfl ?_
      refine A.region ?_
      refine R.one rfl ?_
      refine W.det (.d (.v (.int .i64 (4503599627370496 : Int)))) _ rfl ?_
      refine R.nil ?_
      refine seqK.n ?_
      refine A.ret ?_
      refine seqK.r ?_
      injection h with h
      subst h
      cases hG
      exact ⟨rfl, trivial⟩
    · refine A.skip ?_
      refine seqK.n ?_
      refine A.seq rfl ?_
      refine A.region ?_
      refine R.one rfl ?_
      refine W.det (.d (.v (.int .i64 y1.1))) _ rfl ?_
      refine R.one rfl ?_
      refine W.det (.d (.v (.int .i64 y1.1))) _ rfl ?_
      refine R.nil ?_
      refine seqK.n ?_
      refine A.ret ?_
      injection h with h
      subst h
      cases hG
      exact ⟨rfl, trivial⟩
structure admit_demand where
  job : api_Job
  needs : Int
  gives : Int
def admit_demand.enc (x : admit_demand) : List D := [.v (.int .i64 x.job.Id), .v (.int .i64 x.job.Size), .v (.int .i64 x.job.Due), .v (.int .i64 x.needs), .v (.int .i64 x.gives)]
noncomputable def admit_demands_L1 (y9 : (List api_Job)) (y10 : (List api_Job)) (p_ : api_Profile) (now_ : Int) (s3 : Int × Int × (List admit_demand)) : Option ((Int × Int × (List admit_demand)) ⊕ (((List admit_demand)) ⊕ ((List admit_demand) × Bool))) :=
  (bif (decide (s3.2.1 < ((y9.length : Nat) : Int))) then
    (chkO (decide (0 ≤ s3.2.1) && decide (s3.2.1 < ((y10.length : Nat) : Int)))).bind fun _ =>
    (getI y10 s3.2.1).bind fun x56 =>
    (admit_gives p_ now_ x56.Due).bind fun y57 =>
    (chkO (decide (s3.2.2.length + [(admit_demand.mk x56 (IntKind.i64.wrap (s3.1 + x56.Size)) y57)].length ≤ 1000000))).bind fun _ =>
    some (.inl ((IntKind.i64.wrap (s3.1 + x56.Size)), (IntKind.i64.wrap (s3.2.1 + (1 : Int))), (s3.2.2 ++ [(admit_demand.mk x56 (IntKind.i64.wrap (s3.1 + x56.Size)) y57)])))
  else
    some (.inr (.inl s3.2.2)))
noncomputable def admit_demands (p_ : api_Profile) (jobs_ : (List api_Job)) (now_ : Int) : Option ((List admit_demand) × Bool) :=
  (profile_Check p_).bind fun y7 =>
  (bif (y7 != (0 : Int)) then
    some (([] : List admit_demand), false)
  else
    (admit_valid jobs_).bind fun y8 =>
    (bif (!y8) then
      some (([] : List admit_demand), false)
    else
      (bif (decide (now_ < (0 : Int))) then
        some (([] : List admit_demand), false)
      else
        (bif (decide ((1073741824 : Int) < now_)) then
          some (([] : List admit_demand), false)
        else
          (slices_Clone_api_Job_api_Job jobs_).bind fun y9 =>
          (sortF admit_demands_1 y9).bind fun y10 =>
          (seqF (A := (List admit_demand)) (
            loopF (admit_demands_L1 y9 y10 p_ now_) ((0 : Int), (0 : Int), ([] : List admit_demand)))
          fun s2 =>
            some (s2, true))))))
theorem admit_demands_fn {p_ : api_Profile} {jobs_ : (List api_Job)} {now_ : Int} {r : (List admit_demand) × Bool} (h : admit_demands p_ jobs_ now_ = some r) : Fn Try.prog 25 [.agg [.d (.v (.string p_.Name)), .d (.v (.int .i64 p_.Edit)), .d (.v (.int .i64 p_.Within)), .d (.v (.int .i64 p_.Delete)), .d (.v (.bool p_.React)), .d (.v (.int .i64 p_.Thread)), .d (.v (.bool p_.Quote)), .d (.v (.bool p_.Mention)), .d (.v (.int .i64 p_.Size)), .d (.v (.int .i64 p_.Parts)), .d (.v (.int .i64 p_.Files)), .d (.v (.int .i64 p_.Bytes)), .d (.fz (List.map encS p_.Types)), .d (.v (.int .i64 p_.Join)), .d (.v (.int .i64 p_.History)), .d (.v (.int .i64 p_.Remove)), .d (.v (.int .i64 p_.Level)), .d (.v (.bool p_.Batch)), .d (.v (.int .i64 p_.Rate)), .d (.v (.int .i64 p_.Down)), .d (.v (.int .i64 p_.Window)), .d (.v (.int .i64 p_.Keep))], .d (.fz (List.map api_Job.enc jobs_)), .d (.v (.int .i64 now_))] (.tup [.ow 5 (List.map admit_demand.enc r.1), .d (.v (.bool r.2))]) := by
  refine Fn.of_AW (F := FnX Try.prog) (base := 0) (js := [13]) mixed tok noeqs (fun _ _ _ h => h) Try.call25 Try.func25 rfl Try.ntmps25 (by rw [Try.results25]) (by simp) ?_
  have hG : (fun x => x = r) r := rfl
  unfold admit_demands at h
  refine A.seq rfl ?_
  refine A.region ?_
  refine R.one rfl ?_
  refine W.det (.lp 3 1 0) (Mem.add _ 3 (.box [.d (.v (.string p_.Name)), .d (.v (.int .i64 p_.Edit)), .d (.v (.int .i64 p_.Within)), .d (.v (.int .i64 p_.Delete)), .d (.v (.bool p_.React)), .d (.v (.int .i64 p_.Thread)), .d (.v (.bool p_.Quote)), .d (.v (.bool p_.Mention)), .d (.v (.int .i64 p_.Size)), .d (.v (.int .i64 p_.Parts)), .d (.v (.int .i64 p_.Files)), .d (.v (.int .i64 p_.Bytes)), .d (.fz (List.map encS p_.Types)), .d (.v (.int .i64 p_.Join)), .d (.v (.int .i64 p_.History)), .d (.v (.int .i64 p_.Remove)), .d (.v (.int .i64 p_.Level)), .d (.v (.bool p_.Batch)), .d (.v (.int .i64 p_.Rate)), .d (.v (.int .i64 p_.Down)), .d (.v (.int .i64 p_.Window)), .d (.v (.int .i64 p_.Keep))])) rfl ?_
  refine R.one rfl ?_
  refine W.det (.row 6 1 0) (Mem.add _ 6 (.rows 5 (List.map admit_demand.enc ([] : List admit_demand)) false)) rfl ?_
  refine R.one rfl ?_
  refine W.det (.kb false) _ rfl ?_
  refine R.nil ?_
  refine seqK.n ?_
  refine A.seq rfl ?_
  refine A.seq rfl ?_
  refine A.region ?_
  refine R.one rfl ?_
  refine W.det (.agg [.d (.v (.string p_.Name)), .d (.v (.int .i64 p_.Edit)), .d (.v (.int .i64 p_.Within)), .d (.v (.int .i64 p_.Delete)), .d (.v (.bool p_.React)), .d (.v (.int .i64 p_.Thread)), .d (.v (.bool p_.Quote)), .d (.v (.bool p_.Mention)), .d (.v (.int .i64 p_.Size)), .d (.v (.int .i64 p_.Parts)), .d (.v (.int .i64 p_.Files)), .d (.v (.int .i64 p_.Bytes)), .d (.fz (List.map encS p_.Types)), .d (.v (.int .i64 p_.Join)), .d (.v (.int .i64 p_.History)), .d (.v (.int .i64 p_.Remove)), .d (.v (.int .i64 p_.Level)), .d (.v (.bool p_.Batch)), .d (.v (.int .i64 p_.Rate)), .d (.v (.int .i64 p_.Down)), .d (.v (.int .i64 p_.Window)), .d (.v (.int .i64 p_.Keep))]) _ rfl ?_
  refine R.one rfl ?_
  refine bindK h fun y7 hy7 h => ?_
  refine W.call rfl (profile_Check_fn hy7) ?_
  refine W.det (.d (.v (.int .i64 y7))) _ rfl ?_
  refine R.one rfl ?_
  refine W.det (.d (.v (.bool (y7 != (0 : Int))))) _ rfl ?_
  refine R.one rfl ?_
  refine W.det (.d (.v (.bool (y7 != (0 : Int))))) _ rfl ?_
  refine R.gF rfl rfl rfl h (fun _ h => ?_) (fun _ h => ?_)
  · refine R.skip rfl rfl rfl ?_
    refine R.skip rfl rfl rfl ?_
    refine R.one rfl ?_
    refine W.det (.kb true) _ rfl ?_
    refine R.one rfl ?_
    refine W.det (.kb true) _ rfl ?_
    refine R.skip rfl rfl rfl ?_
    refine R.skip rfl rfl rfl ?_
    refine R.one rfl ?_
    refine W.det (.kb true) _ rfl ?_
    refine R.one rfl ?_
    refine W.det (.kb true) _ rfl ?_
    refine R.skip rfl rfl rfl ?_
    refine R.skip rfl rfl rfl ?_
    refine R.one rfl ?_
    refine W.det (.kb true) _ rfl ?_
    refine R.nil ?_
    refine seqK.n ?_
    refine A.condT rfl ?_
    refine A.seq rfl ?_
    refine A.region ?_
    refine R.one rfl ?_
    refine W.det (.row 6 2 0) (Mem.add _ 6 (.rows 5 (List.map admit_demand.enc ([] : List admit_demand)) false)) rfl ?_
    refine R.one rfl ?_
    refine W.det (.kb false) _ rfl ?_
    refine R.nil ?_
    refine seqK.n ?_
    refine A.ret ?_
    refine seqK.r ?_
    injection h with h
    subst h
    cases hG
    exact ⟨rfl, rfl, rfl, trivial⟩
  · refine W.det (.d (.fz (List.map api_Job.enc jobs_))) _ rfl ?_
    refine R.run rfl rfl rfl ?_
    refine bindK h fun y8 hy8 h => ?_
    refine W.call rfl (admit_valid_fn hy8) ?_
    refine W.det (.d (.v (.bool y8))) _ rfl ?_
    refine R.run rfl rfl rfl ?_
    refine W.det (.d (.v (.bool (!y8)))) _ rfl ?_
    refine R.one rfl ?_
    refine W.det (.d (.v (.bool (!y8)))) _ rfl ?_
    refine R.one rfl ?_
    refine W.det (.d (.v (.bool (!y8)))) _ rfl ?_
    refine R.gF rfl rfl rfl h (fun _ h => ?_) (fun _ h => ?_)
    · refine R.skip rfl rfl rfl ?_
      refine R.one rfl ?_
      refine W.det (.kb true) _ rfl ?_
      refine R.one rfl ?_
      refine W.det (.kb true) _ rfl ?_
      refine R.skip rfl rfl rfl ?_
      refine R.skip rfl rfl rfl ?_
      refine R.one rfl ?_
      refine W.det (.kb true) _ rfl ?_
      refine R.nil ?_
      refine seqK.n ?_
      refine A.condT rfl ?_
      refine A.seq rfl ?_
      refine A.region ?_
      refine R.one rfl ?_
      refine W.det (.row 6 2 0) (Mem.add _ 6 (.rows 5 (List.map admit_demand.enc ([] : List admit_demand)) false)) rfl ?_
      refine R.one rfl ?_
      refine W.det (.kb false) _ rfl ?_
      refine R.nil ?_
      refine seqK.n ?_
      refine A.ret ?_
      refine seqK.r ?_
      injection h with h
      subst h
      cases hG
      exact ⟨rfl, rfl, rfl, trivial⟩
    · refine W.det (.d (.v (.int .i64 now_))) _ rfl ?_
      refine R.run rfl rfl rfl ?_
      refine W.det (.d (.v (.bool (decide (now_ < (0 : Int)))))) _ rfl ?_
      refine R.one rfl ?_
      refine W.det (.d (.v (.bool (decide (now_ < (0 : Int)))))) _ rfl ?_
      refine R.one rfl ?_
      refine W.det (.d (.v (.bool (decide (now_ < (0 : Int)))))) _ rfl ?_
      refine R.gF rfl rfl rfl h (fun _ h => ?_) (fun _ h => ?_)
      · refine R.skip rfl rfl rfl ?_
        refine R.one rfl ?_
        refine W.det (.kb true) _ rfl ?_
        refine R.nil ?_
        refine seqK.n ?_
        refine A.condT rfl ?_
        refine A.seq rfl ?_
        refine A.region ?_
        refine R.one rfl ?_
        refine W.det (.row 6 2 0) (Mem.add _ 6 (.rows 5 (List.map admit_demand.enc ([] : List admit_demand)) false)) rfl ?_
        refine R.one rfl ?_
        refine W.det (.kb false) _ rfl ?_
        refine R.nil ?_
        refine seqK.n ?_
        refine A.ret ?_
        refine seqK.r ?_
        injection h with h
        subst h
        cases hG
        exact ⟨rfl, rfl, rfl, trivial⟩
      · refine W.det (.d (.v (.int .i64 now_))) _ rfl ?_
        refine R.run rfl rfl rfl ?_
        refine W.det (.d (.v (.bool (decide ((1073741824 : Int) < now_))))) _ rfl ?_
        refine R.one rfl ?_
        refine W.det (.d (.v (.bool (decide ((1073741824 : Int) < now_))))) _ rfl ?_
        refine R.nil ?_
        refine seqK.n ?_
        refine A.condB rfl h (fun _ h => ?_) (fun _ h => ?_)
        · refine A.seq rfl ?_
          refine A.region ?_
          refine R.one rfl ?_
          refine W.det (.row 6 2 0) (Mem.add _ 6 (.rows 5 (List.map admit_demand.enc ([] : List admit_demand)) false)) rfl ?_
          refine R.one rfl ?_
          refine W.det (.kb false) _ rfl ?_
          refine R.nil ?_
          refine seqK.n ?_
          refine A.ret ?_
          refine seqK.r ?_
          injection h with h
          subst h
          cases hG
          exact ⟨rfl, rfl, rfl, trivial⟩
        · refine A.skip ?_
          refine seqK.n ?_
          refine A.seq rfl ?_
          refine A.region ?_
          refine R.one rfl ?_
          refine W.det (.d (.fz (List.map api_Job.enc jobs_))) _ rfl ?_
          refine R.one rfl ?_
          refine bindK h fun y9 hy9 h => ?_
          refine W.call rfl (slices_Clone_api_Job_api_Job_fn hy9) ?_
          refine W.v (.row 30 1 (List.map api_Job.enc y9).length) (.row 30 1 y9.length) (Mem.add _ 30 (.rows 3 (List.map api_Job.enc y9) false)) rfl (by simp only [List.length_map]) ?_
          refine R.one rfl ?_
          refine W.det (.row 30 1 y9.length) _ rfl ?_
          refine R.nil ?_
          refine seqK.n ?_
          refine A.seq rfl ?_
          refine A.region ?_
          refine R.one rfl ?_
          refine W.det (.row 30 1 y9.length) _ rfl ?_
          refine R.one rfl ?_
          refine bindK h fun y10 hy10 h => ?_
          refine W.call rfl (slices_SortFunc_api_Job_api_Job_fn (cF := 37) (cC := []) rfl (fun _ _ _ h => admit_demands_1_fn h) hy10) ?_
          refine W.chk rfl (by simp only [List.length_map]; exact sortF_len hy10) ?_
          refine W.det (.tup []) (Mem.set _ 30 1 (some (.rows 3 (List.map api_Job.enc y10) false))) rfl ?_
          refine R.nil ?_
          refine seqK.n ?_
          refine A.seq rfl ?_
          refine A.region ?_
          refine R.one rfl ?_
          refine W.det (.row 9 1 0) (Mem.add _ 9 (.rows 5 (List.map admit_demand.enc ([] : List admit_demand)) false)) rfl ?_
          refine R.nil ?_
          refine seqK.n ?_
          refine A.seq rfl ?_
          refine A.region ?_
          refine R.one rfl ?_
          refine W.det (.d (.v (.int .i64 (0 : Int)))) _ rfl ?_
          refine R.nil ?_
          refine seqK.n ?_
          refine A.join (fun (s2 : (List admit_demand)) => [(9, .row 900000 1 s2.length)]) (fun s2 => [(900000, .rows 5 (List.map admit_demand.enc s2) false)]) _ h hG rfl ?_ ?_
          · intro J f h hG
            refine A.seq rfl ?_
            refine A.region ?_
            refine R.one rfl ?_
            refine W.det (.row 30 1 y9.length) _ rfl ?_
            refine R.one rfl ?_
            refine W.det (.d (.v (.int .i64 ((y9.length : Nat) : Int)))) _ rfl ?_
            refine R.one rfl ?_
            refine W.det (.d (.v (.int .i64 (0 : Int)))) _ rfl ?_
            refine R.nil ?_
            refine seqK.n ?_
            refine A.block ?_
            refine A.loop (fun (s3 : Int × Int × (List admit_demand)) => [(2, .d (.v (.int .i64 now_))), (3, .lp 900000 1 0), (9, .row 900001 1 s3.2.2.length), (10, .d (.v (.int .i64 s3.1))), (33, .row 900002 1 y10.length), (34, .d (.v (.int .i64 ((y9.length : Nat) : Int)))), (35, .d (.v (.int .i64 s3.2.1)))]) (fun s3 => [(900000, .box [.d (.v (.string p_.Name)), .d (.v (.int .i64 p_.Edit)), .d (.v (.int .i64 p_.Within)), .d (.v (.int .i64 p_.Delete)), .d (.v (.bool p_.React)), .d (.v (.int .i64 p_.Thread)), .d (.v (.bool p_.Quote)), .d (.v (.bool p_.Mention)), .d (.v (.int .i64 p_.Size)), .d (.v (.int .i64 p_.Parts)), .d (.v (.int .i64 p_.Files)), .d (.v (.int .i64 p_.Bytes)), .d (.fz (List.map encS p_.Types)), .d (.v (.int .i64 p_.Join)), .d (.v (.int .i64 p_.History)), .d (.v (.int .i64 p_.Remove)), .d (.v (.int .i64 p_.Level)), .d (.v (.bool p_.Batch)), .d (.v (.int .i64 p_.Rate)), .d (.v (.int .i64 p_.Down)), .d (.v (.int .i64 p_.Window)), .d (.v (.int .i64 p_.Keep))]), (900001, .rows 5 (List.map admit_demand.enc s3.2.2) false), (900002, .rows 3 (List.map api_Job.enc y10) false)]) _ h hG (Enters.of [] [(900000, (3, 1)), (900001, (9, 1)), (900002, (30, 1))] _ rfl rfl (chkE.c rfl rfl (chkE.c rfl rfl (chkE.c rfl rfl (chkE.c rfl rfl (chkE.c rfl (by simp only [sortF_len hy10]; rfl) (chkE.c rfl rfl (chkE.c rfl rfl trivial))))))) (chkM.c rfl rfl (chkM.c rfl rfl (chkM.c rfl rfl trivial)))) ?_
            intro J s3 f h hG
            unfold admit_demands_L1 at h
            refine A.seq rfl ?_
            refine A.region ?_
            refine R.one rfl ?_
            refine W.det (.d (.v (.bool (decide (s3.2.1 < ((y9.length : Nat) : Int)))))) _ rfl ?_
            refine R.nil ?_
            refine seqK.n ?_
            refine A.seq rfl ?_
            refine A.condB rfl h (fun _ h => ?_) (fun _ h => ?_)
            · refine A.skip ?_
              refine seqK.n ?_
              refine A.seq rfl ?_
              refine A.block ?_
              refine A.seq rfl ?_
              refine A.region ?_
              refine R.one rfl ?_
              refine chkK h fun g55 h => ?_
              refine W.chk rfl (by simpa using g55) ?_
              refine W.det (.rp 900002 1 s3.2.1.toNat 0) _ rfl ?_
              refine R.one rfl ?_
              refine bindK h fun x56 hx56 h => ?_
              refine W.elem rfl (elemG hx56) ?_
              refine W.det (.agg [.d (.v (.int .i64 x56.Id)), .d (.v (.int .i64 x56.Size)), .d (.v (.int .i64 x56.Due))]) _ rfl ?_
              refine R.one rfl ?_
              refine W.det (.lp 12 2 0) (Mem.add _ 12 (.box [.d (.v (.int .i64 (0 : Int))), .d (.v (.int .i64 (0 : Int))), .d (.v (.int .i64 (0 : Int)))])) rfl ?_
              refine R.one rfl ?_
              refine W.det (.tup []) (Mem.set _ 12 2 (some (.box [.d (.v (.int .i64 x56.Id)), .d (.v (.int .i64 x56.Size)), .d (.v (.int .i64 x56.Due))]))) rfl ?_
              refine R.nil ?_
              refine seqK.n ?_
              refine A.seq rfl ?_
              refine A.region ?_
              refine R.one rfl ?_
              refine W.det (.d (.v (.int .i64 s3.1))) _ rfl ?_
              refine R.one rfl ?_
              refine W.det (.lp 12 2 1) _ rfl ?_
              refine R.one rfl ?_
              refine W.det (.d (.v (.int .i64 x56.Size))) _ rfl ?_
              refine R.one rfl ?_
              refine W.det (.d (.v (.int .i64 (IntKind.i64.wrap (s3.1 + x56.Size))))) _ rfl ?_
              refine R.one rfl ?_
              refine W.det (.d (.v (.int .i64 (IntKind.i64.wrap (s3.1 + x56.Size))))) _ rfl ?_
              refine R.nil ?_
              refine seqK.n ?_
              refine A.regionD (by kernel_rfl) ?_
              refine R.one rfl ?_
              refine W.det (.row 900001 1 s3.2.2.length) _ rfl ?_
              refine R.one rfl ?_
              refine W.det (.agg [.d (.v (.int .i64 x56.Id)), .d (.v (.int .i64 x56.Size)), .d (.v (.int .i64 x56.Due))]) _ rfl ?_
              refine R.one rfl ?_
              refine W.det (.d (.v (.int .i64 (IntKind.i64.wrap (s3.1 + x56.Size))))) _ rfl ?_
              refine R.one rfl ?_
              refine W.det (.agg [.d (.v (.string p_.Name)), .d (.v (.int .i64 p_.Edit)), .d (.v (.int .i64 p_.Within)), .d (.v (.int .i64 p_.Delete)), .d (.v (.bool p_.React)), .d (.v (.int .i64 p_.Thread)), .d (.v (.bool p_.Quote)), .d (.v (.bool p_.Mention)), .d (.v (.int .i64 p_.Size)), .d (.v (.int .i64 p_.Parts)), .d (.v (.int .i64 p_.Files)), .d (.v (.int .i64 p_.Bytes)), .d (.fz (List.map encS p_.Types)), .d (.v (.int .i64 p_.Join)), .d (.v (.int .i64 p_.History)), .d (.v (.int .i64 p_.Remove)), .d (.v (.int .i64 p_.Level)), .d (.v (.bool p_.Batch)), .d (.v (.int .i64 p_.Rate)), .d (.v (.int .i64 p_.Down)), .d (.v (.int .i64 p_.Window)), .d (.v (.int .i64 p_.Keep))]) _ rfl ?_
              refine R.one rfl ?_
              refine W.det (.d (.v (.int .i64 now_))) _ rfl ?_
              refine R.one rfl ?_
              refine W.det (.lp 12 2 2) _ rfl ?_
              refine R.one rfl ?_
              refine W.det (.d (.v (.int .i64 x56.Due))) _ rfl ?_
              refine R.one rfl ?_
              refine bindK h fun y57 hy57 h => ?_
              refine W.call rfl (admit_gives_fn hy57) ?_
              refine W.det (.d (.v (.int .i64 y57))) _ rfl ?_
              refine R.one rfl ?_
              refine W.det (.agg [.d (.v (.int .i64 x56.Id)), .d (.v (.int .i64 x56.Size)), .d (.v (.int .i64 x56.Due)), .d (.v (.int .i64 (IntKind.i64.wrap (s3.1 + x56.Size)))), .d (.v (.int .i64 y57))]) _ rfl ?_
              refine R.one rfl ?_
              refine W.det (.row 52 2 1) (Mem.add _ 52 (.rows 5 (List.map admit_demand.enc [(admit_demand.mk x56 (IntKind.i64.wrap (s3.1 + x56.Size)) y57)]) false)) rfl ?_
              refine R.one rfl ?_
              refine chkK h fun g58 h => ?_
              refine W.chk rfl (appChk (fun _ => rfl) g58) ?_
              refine W.app rfl rfl ?_
              refine R.one rfl ?_
              refine W.det (.row 900001 2 (s3.2.2 ++ [(admit_demand.mk x56 (IntKind.i64.wrap (s3.1 + x56.Size)) y57)]).length) _ rfl ?_
              refine R.nil ?_
              refine blockK.n ?_
              refine seqK.n ?_
              refine A.region ?_
              refine R.one rfl ?_
              refine W.det (.d (.v (.int .i64 (IntKind.i64.wrap (s3.2.1 + (1 : Int)))))) _ rfl ?_
              refine R.one rfl ?_
              refine W.det (.d (.v (.int .i64 (IntKind.i64.wrap (s3.2.1 + (1 : Int)))))) _ rfl ?_
              refine R.nil ?_
              injection h with h
              subst h
              exact headK.n hG (Enters.of [] [(900000, (900000, 1)), (900001, (900001, 2)), (900002, (900002, 1))] _ rfl rfl (chkE.c rfl rfl (chkE.c rfl rfl (chkE.c rfl rfl (chkE.c rfl rfl (chkE.c rfl rfl (chkE.c rfl rfl (chkE.c rfl rfl trivial))))))) (chkM.c rfl rfl (chkM.c rfl rfl (chkM.c rfl rfl trivial))))
            · refine A.exit ?_
              refine seqK.e ?_
              refine headK.e ?_
              refine blockK.x ?_
              injection h with h
              subst h
              exact headK.n hG (Enters.of [] [(900000, (900001, 1))] _ rfl rfl (chkE.c rfl rfl trivial) (chkM.c rfl rfl trivial))
          · intro s2 r2 h hG
            refine A.seq rfl ?_
            refine A.region ?_
            refine R.one rfl ?_
            refine W.det (.row 900000 1 s2.length) _ rfl ?_
            refine R.one rfl ?_
            refine W.det (.row 900000 1 s2.length) _ rfl ?_
            refine R.one rfl ?_
            refine W.det (.kb true) _ rfl ?_
            refine R.nil ?_
            refine seqK.n ?_
            refine A.ret ?_
            injection h with h
            subst h
            cases hG
            exact ⟨rfl, rfl, rfl, trivial⟩
noncomputable def admit_Plan_L1 (y1 : (List admit_demand) × Bool) (s3 : Int × (List Int)) : Option ((Int × (List Int)) ⊕ (((List Int)) ⊕ ((List Int) × Int × Int))) :=
  (bif (decide (s3.1 < ((y1.1.length : Nat) : Int))) then
    (chkO (decide (0 ≤ s3.1) && decide (s3.1 < ((y1.1.length : Nat) : Int)))).bind fun _ =>
    (getI y1.1 s3.1).bind fun x36 =>
    (bif (decide (x36.gives < x36.needs)) then
      some (.inr (.inr (([] : List Int), x36.job.Id, (16 : Int))))
    else
      (chkO (decide (s3.2.length + [(IntKind.i64.wrap (x36.gives - x36.needs))].length ≤ 1000000))).bind fun _ =>
      some (.inl ((IntKind.i64.wrap (s3.1 + (1 : Int))), (s3.2 ++ [(IntKind.i64.wrap (x36.gives - x36.needs))]))))
  else
    some (.inr (.inl s3.2)))
noncomputable def admit_Plan (p_ : api_Profile) (jobs_ : (List api_Job)) (now_ : Int) : Option ((List Int) × Int × Int) :=
  (admit_demands p_ jobs_ now_).bind fun y1 =>
  (bif (!y1.2) then
    some (([] : List Int), (-1 : Int), (1 : Int))
  else
    (seqF (A := (List Int)) (
      loopF (admit_Plan_L1 y1) ((0 : Int), ([] : List Int)))
    fun s2 =>
      some (s2, (-1 : Int), (0 : Int))))
theorem admit_Plan_fn {p_ : api_Profile} {jobs_ : (List api_Job)} {now_ : Int} {r : (List Int) × Int × Int} (h : admit_Plan p_ jobs_ now_ = some r) : Fn Try.prog 11 [.agg [.d (.v (.string p_.Name)), .d (.v (.int .i64 p_.Edit)), .d (.v (.int .i64 p_.Within)), .d (.v (.int .i64 p_.Delete)), .d (.v (.bool p_.React)), .d (.v (.int .i64 p_.Thread)), .d (.v (.bool p_.Quote)), .d (.v (.bool p_.Mention)), .d (.v (.int .i64 p_.Size)), .d (.v (.int .i64 p_.Parts)), .d (.v (.int .i64 p_.Files)), .d (.v (.int .i64 p_.Bytes)), .d (.fz (List.map encS p_.Types)), .d (.v (.int .i64 p_.Join)), .d (.v (.int .i64 p_.History)), .d (.v (.int .i64 p_.Remove)), .d (.v (.int .i64 p_.Level)), .d (.v (.bool p_.Batch)), .d (.v (.int .i64 p_.Rate)), .d (.v (.int .i64 p_.Down)), .d (.v (.int .i64 p_.Window)), .d (.v (.int .i64 p_.Keep))], .d (.fz (List.map api_Job.enc jobs_)), .d (.v (.int .i64 now_))] (.tup [.ow 1 (List.map (encI .i64) r.1), .d (.v (.int .i64 r.2.1)), .d (.v (.int .i64 r.2.2))]) := by
  refine Fn.of_AW (F := FnX Try.prog) (base := 0) (js := [12]) mixed tok noeqs (fun _ _ _ h => h) Try.call11 Try.func11 rfl Try.ntmps11 (by rw [Try.results11]) (by simp) ?_
  have hG : (fun x => x = r) r := rfl
  unfold admit_Plan at h
  refine A.seq rfl ?_
  refine A.region ?_
  refine R.one rfl ?_
  refine W.det (.lp 3 1 0) (Mem.add _ 3 (.box [.d (.v (.string p_.Name)), .d (.v (.int .i64 p_.Edit)), .d (.v (.int .i64 p_.Within)), .d (.v (.int .i64 p_.Delete)), .d (.v (.bool p_.React)), .d (.v (.int .i64 p_.Thread)), .d (.v (.bool p_.Quote)), .d (.v (.bool p_.Mention)), .d (.v (.int .i64 p_.Size)), .d (.v (.int .i64 p_.Parts)), .d (.v (.int .i64 p_.Files)), .d (.v (.int .i64 p_.Bytes)), .d (.fz (List.map encS p_.Types)), .d (.v (.int .i64 p_.Join)), .d (.v (.int .i64 p_.History)), .d (.v (.int .i64 p_.Remove)), .d (.v (.int .i64 p_.Level)), .d (.v (.bool p_.Batch)), .d (.v (.int .i64 p_.Rate)), .d (.v (.int .i64 p_.Down)), .d (.v (.int .i64 p_.Window)), .d (.v (.int .i64 p_.Keep))])) rfl ?_
  refine R.one rfl ?_
  refine W.det (.row 6 1 0) (Mem.add _ 6 (.rows 1 (List.map (encI .i64) ([] : List Int)) false)) rfl ?_
  refine R.one rfl ?_
  refine W.det (.d (.v (.int .i64 (0 : Int)))) _ rfl ?_
  refine R.one rfl ?_
  refine W.det (.d (.v (.int .i64 (0 : Int)))) _ rfl ?_
  refine R.nil ?_
  refine seqK.n ?_
  refine A.seq rfl ?_
  refine A.region ?_
  refine R.one rfl ?_
  refine W.det (.agg [.d (.v (.string p_.Name)), .d (.v (.int .i64 p_.Edit)), .d (.v (.int .i64 p_.Within)), .d (.v (.int .i64 p_.Delete)), .d (.v (.bool p_.React)), .d (.v (.int .i64 p_.Thread)), .d (.v (.bool p_.Quote)), .d (.v (.bool p_.Mention)), .d (.v (.int .i64 p_.Size)), .d (.v (.int .i64 p_.Parts)), .d (.v (.int .i64 p_.Files)), .d (.v (.int .i64 p_.Bytes)), .d (.fz (List.map encS p_.Types)), .d (.v (.int .i64 p_.Join)), .d (.v (.int .i64 p_.History)), .d (.v (.int .i64 p_.Remove)), .d (.v (.int .i64 p_.Level)), .d (.v (.bool p_.Batch)), .d (.v (.int .i64 p_.Rate)), .d (.v (.int .i64 p_.Down)), .d (.v (.int .i64 p_.Window)), .d (.v (.int .i64 p_.Keep))]) _ rfl ?_
  refine R.one rfl ?_
  refine W.det (.d (.fz (List.map api_Job.enc jobs_))) _ rfl ?_
  refine R.one rfl ?_
  refine W.det (.d (.v (.int .i64 now_))) _ rfl ?_
  refine R.one rfl ?_
  refine bindK h fun y1 hy1 h => ?_
  refine W.call rfl (admit_demands_fn hy1) ?_
  refine W.v (.tup [.row 1048594 1 (List.map admit_demand.enc y1.1).length, .d (.v (.bool y1.2))]) (.tup [.row 1048594 1 y1.1.length, .d (.v (.bool y1.2))]) (Mem.add _ 1048594 (.rows 5 (List.map admit_demand.enc y1.1) false)) rfl (by simp only [List.length_map]) ?_
  refine R.one rfl ?_
  refine W.det (.tup [.row 1048594 1 y1.1.length, .d (.v (.bool y1.2))]) _ rfl ?_
  refine R.one rfl ?_
  refine W.det (.row 1048594 1 y1.1.length) _ rfl ?_
  refine R.one rfl ?_
  refine W.det (.d (.v (.bool y1.2))) _ rfl ?_
  refine R.one rfl ?_
  refine W.det (.row 1048594 1 y1.1.length) _ rfl ?_
  refine R.one rfl ?_
  refine W.det (.d (.v (.bool y1.2))) _ rfl ?_
  refine R.nil ?_
  refine seqK.n ?_
  refine A.seq rfl ?_
  refine A.seq rfl ?_
  refine A.region ?_
  refine R.one rfl ?_
  refine W.det (.d (.v (.bool y1.2))) _ rfl ?_
  refine R.one rfl ?_
  refine W.det (.d (.v (.bool (!y1.2)))) _ rfl ?_
  refine R.nil ?_
  refine seqK.n ?_
  refine A.condB rfl h (fun _ h => ?_) (fun _ h => ?_)
  · refine A.seq rfl ?_
    refine A.region ?_
    refine R.one rfl ?_
    refine W.det (.row 6 2 0) (Mem.add _ 6 (.rows 1 (List.map (encI .i64) ([] : List Int)) false)) rfl ?_
    refine R.one rfl ?_
    refine W.det (.d (.v (.int .i64 (-1 : Int)))) _ rfl ?_
    refine R.one rfl ?_
    refine W.det (.d (.v (.int .i64 (1 : Int)))) _ rfl ?_
    refine R.nil ?_
    refine seqK.n ?_
    refine A.ret ?_
    refine seqK.r ?_
    injection h with h
    subst h
    cases hG
    exact ⟨rfl, rfl, rfl, rfl, trivial⟩
  · refine A.skip ?_
    refine seqK.n ?_
    refine A.seq rfl ?_
    refine A.region ?_
    refine R.one rfl ?_
    refine W.det (.row 11 1 0) (Mem.add _ 11 (.rows 1 (List.map (encI .i64) ([] : List Int)) false)) rfl ?_
    refine R.nil ?_
    refine seqK.n ?_
    refine A.join (fun (s2 : (List Int)) => [(11, .row 900000 1 s2.length)]) (fun s2 => [(900000, .rows 1 (List.map (encI .i64) s2) false)]) _ h hG rfl ?_ ?_
    · intro J f h hG
      refine A.seq rfl ?_
      refine A.region ?_
      refine R.one rfl ?_
      refine W.det (.row 1048594 1 y1.1.length) _ rfl ?_
      refine R.one rfl ?_
      refine W.det (.d (.v (.int .i64 ((y1.1.length : Nat) : Int)))) _ rfl ?_
      refine R.one rfl ?_
      refine W.det (.d (.v (.int .i64 (0 : Int)))) _ rfl ?_
      refine R.nil ?_
      refine seqK.n ?_
      refine A.block ?_
      refine A.loop (fun (s3 : Int × (List Int)) => [(11, .row 900000 1 s3.2.length), (23, .row 900001 1 y1.1.length), (24, .d (.v (.int .i64 ((y1.1.length : Nat) : Int)))), (25, .d (.v (.int .i64 s3.1)))]) (fun s3 => [(900000, .rows 1 (List.map (encI .i64) s3.2) false), (900001, .rows 5 (List.map admit_demand.enc y1.1) false)]) _ h hG (Enters.of [] [(900000, (11, 1)), (900001, (1048594, 1))] _ rfl rfl (chkE.c rfl rfl (chkE.c rfl rfl (chkE.c rfl rfl (chkE.c rfl rfl trivial)))) (chkM.c rfl rfl (chkM.c rfl rfl trivial))) ?_
      intro J s3 f h hG
      unfold admit_Plan_L1 at h
      refine A.seq rfl ?_
      refine A.region ?_
      refine R.one rfl ?_
      refine W.det (.d (.v (.bool (decide (s3.1 < ((y1.1.length : Nat) : Int)))))) _ rfl ?_
      refine R.nil ?_
      refine seqK.n ?_
      refine A.seq rfl ?_
      refine A.condB rfl h (fun _ h => ?_) (fun _ h => ?_)
      · refine A.skip ?_
        refine seqK.n ?_
        refine A.seq rfl ?_
        refine A.block ?_
        refine A.seq rfl ?_
        refine A.region ?_
        refine R.one rfl ?_
        refine chkK h fun g35 h => ?_
        refine W.chk rfl (by simpa using g35) ?_
        refine W.det (.rp 900001 1 s3.1.toNat 0) _ rfl ?_
        refine R.one rfl ?_
        refine bindK h fun x36 hx36 h => ?_
        refine W.elem rfl (elemG hx36) ?_
        refine W.det (.agg [.d (.v (.int .i64 x36.job.Id)), .d (.v (.int .i64 x36.job.Size)), .d (.v (.int .i64 x36.job.Due)), .d (.v (.int .i64 x36.needs)), .d (.v (.int .i64 x36.gives))]) _ rfl ?_
        refine R.one rfl ?_
        refine W.det (.lp 13 2 0) (Mem.add _ 13 (.box [.d (.v (.int .i64 (0 : Int))), .d (.v (.int .i64 (0 : Int))), .d (.v (.int .i64 (0 : Int))), .d (.v (.int .i64 (0 : Int))), .d (.v (.int .i64 (0 : Int)))])) rfl ?_
        refine R.one rfl ?_
        refine W.det (.tup []) (Mem.set _ 13 2 (some (.box [.d (.v (.int .i64 x36.job.Id)), .d (.v (.int .i64 x36.job.Size)), .d (.v (.int .i64 x36.job.Due)), .d (.v (.int .i64 x36.needs)), .d (.v (.int .i64 x36.gives))]))) rfl ?_
        refine R.nil ?_
        refine seqK.n ?_
        refine A.seq rfl ?_
        refine A.seq rfl ?_
        refine A.region ?_
        refine R.one rfl ?_
        refine W.det (.lp 13 2 3) _ rfl ?_
        refine R.one rfl ?_
        refine W.det (.d (.v (.int .i64 x36.needs))) _ rfl ?_
        refine R.one rfl ?_
        refine W.det (.lp 13 2 4) _ rfl ?_
        refine R.one rfl ?_
        refine W.det (.d (.v (.int .i64 x36.gives))) _ rfl ?_
        refine R.one rfl ?_
        refine W.det (.d (.v (.bool (decide (x36.gives < x36.needs))))) _ rfl ?_
        refine R.nil ?_
        refine seqK.n ?_
        refine A.condB rfl h (fun _ h => ?_) (fun _ h => ?_)
        · refine A.seq rfl ?_
          refine A.regionD (by kernel_rfl) ?_
          refine R.one rfl ?_
          refine W.det (.lp 13 2 0) _ rfl ?_
          refine R.one rfl ?_
          refine W.det (.lp 13 2 0) _ rfl ?_
          refine R.one rfl ?_
          refine W.det (.d (.v (.int .i64 x36.job.Id))) _ rfl ?_
          refine R.one rfl ?_
          refine W.det (.row 6 2 0) (Mem.add _ 6 (.rows 1 (List.map (encI .i64) ([] : List Int)) false)) rfl ?_
          refine R.one rfl ?_
          refine W.det (.d (.v (.int .i64 x36.job.Id))) _ rfl ?_
          refine R.one rfl ?_
          refine W.det (.d (.v (.int .i64 (16 : Int)))) _ rfl ?_
          refine R.nil ?_
          refine seqK.n ?_
          refine A.ret ?_
          refine seqK.r ?_
          refine blockK.r ?_
          refine seqK.r ?_
          refine headK.r ?_
          refine blockK.r ?_
          refine headK.r ?_
          injection h with h
          subst h
          cases hG
          exact ⟨rfl, rfl, rfl, rfl, trivial⟩
        · refine A.skip ?_
          refine seqK.n ?_
          refine A.region ?_
          refine R.one rfl ?_
          refine W.det (.row 900000 1 s3.2.length) _ rfl ?_
          refine R.one rfl ?_
          refine W.det (.lp 13 2 4) _ rfl ?_
          refine R.one rfl ?_
          refine W.det (.d (.v (.int .i64 x36.gives))) _ rfl ?_
          refine R.one rfl ?_
          refine W.det (.lp 13 2 3) _ rfl ?_
          refine R.one rfl ?_
          refine W.det (.d (.v (.int .i64 x36.needs))) _ rfl ?_
          refine R.one rfl ?_
          refine W.det (.d (.v (.int .i64 (IntKind.i64.wrap (x36.gives - x36.needs))))) _ rfl ?_
          refine R.one rfl ?_
          refine W.det (.row 43 2 1) (Mem.add _ 43 (.rows 1 (List.map (encI .i64) [(IntKind.i64.wrap (x36.gives - x36.needs))]) false)) rfl ?_
          refine R.one rfl ?_
          refine chkK h fun g37 h => ?_
          refine W.chk rfl (appChk (fun _ => rfl) g37) ?_
          refine W.app rfl rfl ?_
          refine R.one rfl ?_
          refine W.det (.row 900000 2 (s3.2 ++ [(IntKind.i64.wrap (x36.gives - x36.needs))]).length) _ rfl ?_
          refine R.nil ?_
          refine blockK.n ?_
          refine seqK.n ?_
          refine A.region ?_
          refine R.one rfl ?_
          refine W.det (.d (.v (.int .i64 (IntKind.i64.wrap (s3.1 + (1 : Int)))))) _ rfl ?_
          refine R.one rfl ?_
          refine W.det (.d (.v (.int .i64 (IntKind.i64.wrap (s3.1 + (1 : Int)))))) _ rfl ?_
          refine R.nil ?_
          injection h with h
          subst h
          exact headK.n hG (Enters.of [] [(900000, (900000, 2)), (900001, (900001, 1))] _ rfl rfl (chkE.c rfl rfl (chkE.c rfl rfl (chkE.c rfl rfl (chkE.c rfl rfl trivial)))) (chkM.c rfl rfl (chkM.c rfl rfl trivial)))
      · refine A.exit ?_
        refine seqK.e ?_
        refine headK.e ?_
        refine blockK.x ?_
        injection h with h
        subst h
        exact headK.n hG (Enters.of [] [(900000, (900000, 1))] _ rfl rfl (chkE.c rfl rfl trivial) (chkM.c rfl rfl trivial))
    · intro s2 r2 h hG
      refine A.seq rfl ?_
      refine A.region ?_
      refine R.one rfl ?_
      refine W.det (.row 900000 1 s2.length) _ rfl ?_
      refine R.one rfl ?_
      refine W.det (.row 900000 1 s2.length) _ rfl ?_
      refine R.one rfl ?_
      refine W.det (.d (.v (.int .i64 (-1 : Int)))) _ rfl ?_
      refine R.one rfl ?_
      refine W.det (.d (.v (.int .i64 (0 : Int)))) _ rfl ?_
      refine R.nil ?_
      refine seqK.n ?_
      refine A.ret ?_
      injection h with h
      subst h
      cases hG
      exact ⟨rfl, rfl, rfl, rfl, trivial⟩
noncomputable def ref29_Same_L1 (a_ : (List Int)) (b_ : (List Int)) (s3 : Int) : Option ((Int) ⊕ ((Unit) ⊕ (Bool))) :=
  (bif (decide (s3 < (a_.length : Int))) then
    (getI a_ s3).bind fun x23 =>
    (getI b_ s3).bind fun x24 =>
    (bif (x23 != x24) then
      some (.inr (.inr false))
    else
      some (.inl (IntKind.i64.wrap (s3 + (1 : Int)))))
  else
    some (.inr (.inl ())))
noncomputable def ref29_Same (a_ : (List Int)) (b_ : (List Int)) : Option (Bool) :=
  (bif ((a_.length : Int) != (b_.length : Int)) then
    some false
  else
    (seqF (A := Unit) (
      loopF (ref29_Same_L1 a_ b_) (0 : Int))
    fun s2 =>
      some true))
theorem ref29_Same_fn {a_ : (List Int)} {b_ : (List Int)} {r : Bool} (h : ref29_Same a_ b_ = some r) : Fn Try.prog 13 [.d (.fz (List.map (encI .i64) a_)), .d (.fz (List.map (encI .i64) b_))] (.d (.v (.bool r))) := by
  refine Fn.of_AW (F := FnX Try.prog) (base := 0) (js := [8]) mixed tok noeqs (fun _ _ _ h => h) Try.call13 Try.func13 rfl Try.ntmps13 (by rw [Try.results13]) (by simp) ?_
  have hG : (fun x => x = r) r := rfl
  unfold ref29_Same at h
  refine A.seq rfl ?_
  refine A.region ?_
  refine R.one rfl ?_
  refine W.det (.kb false) _ rfl ?_
  refine R.nil ?_
  refine seqK.n ?_
  refine A.seq rfl ?_
  refine A.seq rfl ?_
  refine A.region ?_
  refine R.one rfl ?_
  refine W.det (.d (.fz (List.map (encI .i64) a_))) _ rfl ?_
  refine R.one rfl ?_
  refine W.len rfl ?_
  refine R.one rfl ?_
  refine W.det (.d (.fz (List.map (encI .i64) b_))) _ rfl ?_
  refine R.one rfl ?_
  refine W.len rfl ?_
  refine R.one rfl ?_
  refine W.det (.d (.v (.bool ((a_.length : Int) != (b_.length : Int))))) _ rfl ?_
  refine R.nil ?_
  refine seqK.n ?_
  refine A.condB rfl h (fun _ h => ?_) (fun _ h => ?_)
  · refine A.seq rfl ?_
    refine A.region ?_
    refine R.one rfl ?_
    refine W.det (.kb false) _ rfl ?_
    refine R.nil ?_
    refine seqK.n ?_
    refine A.ret ?_
    refine seqK.r ?_
    injection h with h
    subst h
    cases hG
    exact ⟨rfl, trivial⟩
  · refine A.skip ?_
    refine seqK.n ?_
    refine A.join (fun (s2 : Unit) => []) (fun s2 => []) _ h hG rfl ?_ ?_
    · intro J f h hG
      refine A.seq rfl ?_
      refine A.region ?_
      refine R.one rfl ?_
      refine W.det (.d (.v (.int .i64 (0 : Int)))) _ rfl ?_
      refine R.nil ?_
      refine seqK.n ?_
      refine A.block ?_
      refine A.loop (fun (s3 : Int) => [(0, .d (.fz (List.map (encI .i64) a_))), (1, .d (.fz (List.map (encI .i64) b_))), (5, .d (.v (.int .i64 s3)))]) (fun s3 => []) _ h hG (Enters.of [] [] _ rfl rfl (chkE.c rfl rfl (chkE.c rfl rfl (chkE.c rfl rfl trivial))) trivial) ?_
      intro J s3 f h hG
      unfold ref29_Same_L1 at h
      refine A.seq rfl ?_
      refine A.seq rfl ?_
      refine A.region ?_
      refine R.one rfl ?_
      refine W.det (.d (.v (.int .i64 s3))) _ rfl ?_
      refine R.one rfl ?_
      refine W.det (.d (.fz (List.map (encI .i64) a_))) _ rfl ?_
      refine R.one rfl ?_
      refine W.len rfl ?_
      refine R.one rfl ?_
      refine W.det (.d (.v (.bool (decide (s3 < (a_.length : Int)))))) _ rfl ?_
      refine R.nil ?_
      refine seqK.n ?_
      refine A.condB rfl h (fun _ h => ?_) (fun _ h => ?_)
      · refine A.skip ?_
        refine seqK.n ?_
        refine A.seq rfl ?_
        refine A.block ?_
        refine A.seq rfl ?_
        refine A.regionD (by kernel_rfl) ?_
        refine R.one rfl ?_
        refine W.det (.d (.fz (List.map (encI .i64) a_))) _ rfl ?_
        refine R.one rfl ?_
        refine W.det (.d (.v (.int .i64 s3))) _ rfl ?_
        refine R.one rfl ?_
        refine bindK h fun x23 hx23 h => ?_
        refine W.chk rfl (elemB hx23) ?_
        refine W.elem rfl (elemG hx23) ?_
        refine W.chk rfl rfl ?_
        refine W.det (.fp [.v (.int .i64 x23)]) _ rfl ?_
        refine R.one rfl ?_
        refine W.det (.d (.v (.int .i64 x23))) _ rfl ?_
        refine R.one rfl ?_
        refine W.det (.d (.fz (List.map (encI .i64) b_))) _ rfl ?_
        refine R.one rfl ?_
        refine W.det (.d (.v (.int .i64 s3))) _ rfl ?_
        refine R.one rfl ?_
        refine bindK h fun x24 hx24 h => ?_
        refine W.chk rfl (elemB hx24) ?_
        refine W.elem rfl (elemG hx24) ?_
        refine W.chk rfl rfl ?_
        refine W.det (.fp [.v (.int .i64 x24)]) _ rfl ?_
        refine R.one rfl ?_
        refine W.det (.d (.v (.int .i64 x24))) _ rfl ?_
        refine R.one rfl ?_
        refine W.det (.d (.v (.bool (x23 != x24)))) _ rfl ?_
        refine R.nil ?_
        refine seqK.n ?_
        refine A.condB rfl h (fun _ h => ?_) (fun _ h => ?_)
        · refine A.seq rfl ?_
          refine A.region ?_
          refine R.one rfl ?_
          refine W.det (.kb false) _ rfl ?_
          refine R.nil ?_
          refine seqK.n ?_
          refine A.ret ?_
          refine blockK.r ?_
          refine seqK.r ?_
          refine headK.r ?_
          refine blockK.r ?_
          refine headK.r ?_
          injection h with h
          subst h
          cases hG
          exact ⟨rfl, trivial⟩
        · refine A.skip ?_
          refine blockK.n ?_
          refine seqK.n ?_
          refine A.region ?_
          refine R.one rfl ?_
          refine W.det (.d (.v (.int .i64 s3))) _ rfl ?_
          refine R.one rfl ?_
          refine W.det (.d (.v (.int .i64 (IntKind.i64.wrap (s3 + (1 : Int)))))) _ rfl ?_
          refine R.one rfl ?_
          refine W.det (.d (.v (.int .i64 (IntKind.i64.wrap (s3 + (1 : Int)))))) _ rfl ?_
          refine R.nil ?_
          injection h with h
          subst h
          exact headK.n hG (Enters.of [] [] _ rfl rfl (chkE.c rfl rfl (chkE.c rfl rfl (chkE.c rfl rfl trivial))) trivial)
      · refine A.exit ?_
        refine seqK.e ?_
        refine headK.e ?_
        refine blockK.x ?_
        injection h with h
        subst h
        exact headK.n hG (Enters.of [] [] _ rfl rfl trivial trivial)
    · intro s2 r2 h hG
      refine A.seq rfl ?_
      refine A.region ?_
      refine R.one rfl ?_
      refine W.det (.kb true) _ rfl ?_
      refine R.nil ?_
      refine seqK.n ?_
      refine A.ret ?_
      injection h with h
      subst h
      cases hG
      exact ⟨rfl, trivial⟩
end Go.Proofs.Ytafgcjodefafoaa
