/-
  Plain programs of functions, and that the functions do what they say. Printed by wip/tools/gen.py.
-/
import Derived.Test.YtomfmjejoocmmaaTy
import Derived.Test.YtomfmjejoocmmaaEvS
import Derived.Test.YtomfmjejoocmmaaEvZ
import Derived.Test.YtomfmjejoocmmaaEvW1
import Derived.Test.YtomfmjejoocmmaaEvY
import Derived.Test.YtomfmjejoocmmaaEvK5
import Derived.Test.YtomfmjejoocmmaaIns
import Derived.Test.YtomfmjejoocmmaaShelf
namespace Go.Proofs.Ytomfmjejoocmmaa
open Go.RowKit
attribute [local irreducible] IntKind.wrap AW runL Step.wp
set_option linter.unusedVariables false
set_option maxHeartbeats 4000000
set_option maxRecDepth 100000
structure api_Event where
  Author : Int
  Seq : Int
  Causes : (List Int)
  Kind : Int
  Group : Int
  Target : Int
  Quote : Int
  Who : Int
  N : Int
  Text : ByteArray
  Files : (List Int)
  Step : Int
def api_Event.enc (x : api_Event) : List D := [.v (.int .i64 x.Author), .v (.int .i64 x.Seq), .fz (List.map (encI .i64) x.Causes), .v (.int .i64 x.Kind), .v (.int .i64 x.Group), .v (.int .i64 x.Target), .v (.int .i64 x.Quote), .v (.int .i64 x.Who), .v (.int .i64 x.N), .v (.string x.Text), .fz (List.map (encI .i64) x.Files), .v (.int .i64 x.Step)]
abbrev api_Event.av (x : api_Event) : List AV := [VI x.Author, VI x.Seq, VF (List.map (encI .i64) x.Causes), VI x.Kind, VI x.Group, VI x.Target, VI x.Quote, VI x.Who, VI x.N, VS x.Text, VF (List.map (encI .i64) x.Files), VI x.Step]
structure api_Sent where
  Event : Int
  Net : Int
  Step : Int
def api_Sent.enc (x : api_Sent) : List D := [.v (.int .i64 x.Event), .v (.int .i64 x.Net), .v (.int .i64 x.Step)]
abbrev api_Sent.av (x : api_Sent) : List AV := [VI x.Event, VI x.Net, VI x.Step]
noncomputable def law44_sample : Option ((List api_Event) × (List api_Sent)) :=
  some ([(api_Event.mk (1 : Int) (0 : Int) ([] : List Int) (0 : Int) (0 : Int) (-1 : Int) (-1 : Int) (0 : Int) (0 : Int) (ByteArray.mk #[]) ([] : List Int) (0 : Int)), (api_Event.mk (1 : Int) (0 : Int) ([] : List Int) (1 : Int) (0 : Int) (0 : Int) (-1 : Int) (0 : Int) (0 : Int) (ByteArray.mk #[]) ([] : List Int) (0 : Int)), (api_Event.mk (2 : Int) (0 : Int) ([] : List Int) (0 : Int) (0 : Int) (0 : Int) (-1 : Int) (0 : Int) (0 : Int) (ByteArray.mk #[]) ([] : List Int) (0 : Int))], [(api_Sent.mk (0 : Int) (3 : Int) (5 : Int)), (api_Sent.mk (2 : Int) (4 : Int) (7 : Int)), (api_Sent.mk (1 : Int) (3 : Int) (9 : Int))])
theorem law44_sample_fn {dr : Prop} {r : (List api_Event) × (List api_Sent)} (h : law44_sample = some r) : Fn dr Try.prog 21 [] (.tup [.ow 12 (List.map api_Event.enc r.1), .ow 3 (List.map api_Sent.enc r.2)]) := by
  refine Fn.of_AW (dr := dr) (F := FnX dr Try.prog) (base := 0) (js := []) mixed tok noeqs (fun _ _ _ h => h) Try.call21 Try.func21 rfl Try.ntmps21 (by rw [Try.results21]) (by simp) ?_; have hG : (fun x => x = r) r := rfl; unfold law44_sample at h; refine Zap 2 rfl ?_; refine Zm (.row 0 1 0) (Mem.add _ 0 (.rows 12 (List.map api_Event.enc ([] : List api_Event)) false)) rfl rfl ?_; refine Zm (.row 1 1 0) (Mem.add _ 1 (.rows 3 (List.map api_Sent.enc ([] : List api_Sent)) false)) rfl rfl ?_; refine Zpp 4 rfl ?_; refine Zo (.agg [VI 1, VI 0, .nl, VI 0, VI 0, VI (-1), VI (-1), VI 0, VI 0, VS (ByteArray.mk #[]), .nl, VI 0]) rfl rfl ?_; refine Zo (.agg [VI 1, VI 0, .nl, VI 1, VI 0, VI 0, VI (-1), VI 0, VI 0, VS (ByteArray.mk #[]), .nl, VI 0]) rfl rfl ?_; refine Zo (.agg [VI 2, VI 0, .nl, VI 0, VI 0, VI 0, VI (-1), VI 0, VI 0, VS (ByteArray.mk #[]), .nl, VI 0]) rfl rfl ?_; refine Zm (.row 6 1 3) (Mem.add _ 6 (.rows 12 (List.map api_Event.enc [(api_Event.mk (1 : Int) (0 : Int) ([] : List Int) (0 : Int) (0 : Int) (-1 : Int) (-1 : Int) (0 : Int) (0 : Int) (ByteArray.mk #[]) ([] : List Int) (0 : Int)), (api_Event.mk (1 : Int) (0 : Int) ([] : List Int) (1 : Int) (0 : Int) (0 : Int) (-1 : Int) (0 : Int) (0 : Int) (ByteArray.mk #[]) ([] : List Int) (0 : Int)), (api_Event.mk (2 : Int) (0 : Int) ([] : List Int) (0 : Int) (0 : Int) (0 : Int) (-1 : Int) (0 : Int) (0 : Int) (ByteArray.mk #[]) ([] : List Int) (0 : Int))]) false)) rfl rfl ?_; refine Zo (.row 6 1 3) rfl rfl ?_; refine Zpp 4 rfl ?_; refine Zo (.row 6 1 3) rfl rfl ?_; refine Zo (.agg [VI 0, VI 3, VI 5]) rfl rfl ?_; refine Zo (.agg [VI 2, VI 4, VI 7]) rfl rfl ?_; refine Zo (.agg [VI 1, VI 3, VI 9]) rfl rfl ?_; refine Zm (.row 11 1 3) (Mem.add _ 11 (.rows 3 (List.map api_Sent.enc [(api_Sent.mk (0 : Int) (3 : Int) (5 : Int)), (api_Sent.mk (2 : Int) (4 : Int) (7 : Int)), (api_Sent.mk (1 : Int) (3 : Int) (9 : Int))]) false)) rfl rfl ?_; refine Zo (.row 6 1 3) rfl rfl ?_; refine Zo (.row 11 1 3) rfl rfl ?_; refine Zpb 3 rfl ?_; cases h; cases hG; exact ⟨rfl, rfl, rfl, rfl, trivial⟩
noncomputable def event_below (n_ : Int) (end_ : Int) : Option (Bool) :=
  (bif (decide ((0 : Int) ≤ n_)) then
    some (decide (n_ < end_))
  else
    some false)
theorem event_below_fn {dr : Prop} {n_ : Int} {end_ : Int} {r : Bool} (h : event_below n_ end_ = some r) : Fn dr Try.prog 39 [VI n_, VI end_] (VB r) := by
  refine Fn.of_AW (dr := dr) (F := FnX dr Try.prog) (base := 0) (js := []) mixed tok noeqs (fun _ _ _ h => h) Try.call39 Try.func39 rfl Try.ntmps39 (by rw [Try.results39]) (by simp) ?_; have hG : (fun x => x = r) r := rfl; unfold event_below at h; refine Zap 10 rfl ?_; refine YT rfl rfl rfl h (fun _ h => ?_) (fun _ h => ?_)
  · refine Zwb 8 rfl ?_; cases h; cases hG; exact ⟨rfl, trivial⟩
  · refine Zpb 7 rfl ?_; cases h; cases hG; exact ⟨rfl, trivial⟩
noncomputable def event_Net (account_ : Int) : Option (Int) :=
  (event_below account_ (2000 : Int)).bind fun y2 =>
  (bif (!y2) then
    some (-1 : Int)
  else
    some (Int.tmod account_ (12 : Int)))
theorem event_Net_fn {dr : Prop} {account_ : Int} {r : Int} (h : event_Net account_ = some r) : Fn dr Try.prog 19 [VI account_] (VI r) := by
  refine Fn.of_AW (dr := dr) (F := FnX dr Try.prog) (base := 0) (js := []) mixed tok noeqs (fun _ _ _ h => h) Try.call19 Try.func19 rfl Try.ntmps19 (by rw [Try.results19]) (by simp) ?_; have hG : (fun x => x = r) r := rfl; unfold event_Net at h; refine Zap 9 rfl ?_; refine Y1 rfl ?_; refine bindK h fun y2 hy2 h => ?_; refine W.call rfl (event_below_fn hy2) ?_; refine Zwc 4 rfl ?_; refine A.condB rfl h (fun _ h => ?_) (fun _ h => ?_)
  · refine Zcb 7 rfl ?_; cases h; cases hG; exact ⟨rfl, trivial⟩
  · refine Zcp 5 rfl ?_; refine Y1 rfl ?_; refine W.chk rfl (by decide) ?_; refine Zwb 5 rfl ?_; cases h; cases hG; exact ⟨rfl, trivial⟩
noncomputable def debt_network (n_ : Int) : Option (Bool) :=
  (bif (decide ((0 : Int) ≤ n_)) then
    some (decide (n_ < (12 : Int)))
  else
    some false)
theorem debt_network_fn {dr : Prop} {n_ : Int} {r : Bool} (h : debt_network n_ = some r) : Fn dr Try.prog 31 [VI n_] (VB r) := by
  refine Fn.of_AW (dr := dr) (F := FnX dr Try.prog) (base := 0) (js := []) mixed tok noeqs (fun _ _ _ h => h) Try.call31 Try.func31 rfl Try.ntmps31 (by rw [Try.results31]) (by simp) ?_; have hG : (fun x => x = r) r := rfl; unfold debt_network at h; refine Zap 10 rfl ?_; refine YT rfl rfl rfl h (fun _ h => ?_) (fun _ h => ?_)
  · refine Zwb 7 rfl ?_; cases h; cases hG; exact ⟨rfl, trivial⟩
  · refine Zpb 6 rfl ?_; cases h; cases hG; exact ⟨rfl, trivial⟩
noncomputable def debt_about (events_ : (List api_Event)) (id_ : Int) (message_ : Int) : Option (Bool) :=
  (bif (decide (id_ < (0 : Int))) then
    some false
  else
    (bif (decide ((events_.length : Int) ≤ id_)) then
      some false
    else
      (bif (id_ == message_) then
        some true
      else
        (getI events_ id_).bind fun x1 =>
        (bif (x1.Target == message_) then
          some true
        else
          some (x1.Quote == message_)))))
theorem debt_about_fn {dr : Prop} {events_ : (List api_Event)} {id_ : Int} {message_ : Int} {r : Bool} (h : debt_about events_ id_ message_ = some r) : Fn dr Try.prog 32 [VF (List.map api_Event.enc events_), VI id_, VI message_] (VB r) := by
  refine Fn.of_AW (dr := dr) (F := FnX dr Try.prog) (base := 0) (js := []) mixed tok noeqs (fun _ _ _ h => h) Try.call32 Try.func32 rfl Try.ntmps32 (by rw [Try.results32]) (by simp) ?_; have hG : (fun x => x = r) r := rfl; unfold debt_about at h; refine Zap 11 rfl ?_; refine YF rfl rfl rfl h (fun _ h => ?_) (fun _ h => ?_)
  · refine Zpb 14 rfl ?_; cases h; cases hG; exact ⟨rfl, trivial⟩
  · refine Zwp 2 rfl ?_; refine Y2 rfl rfl rfl ?_; refine W.len rfl ?_; refine Zpc 4 rfl ?_; refine A.condB rfl h (fun _ h => ?_) (fun _ h => ?_)
    · refine Zcb 7 rfl ?_; cases h; cases hG; exact ⟨rfl, trivial⟩
    · refine Zcp 8 rfl ?_; refine YF rfl rfl rfl h (fun _ h => ?_) (fun _ h => ?_)
      · refine Zpb 20 rfl ?_; cases h; cases hG; exact ⟨rfl, trivial⟩
      · refine Zwp 2 rfl ?_; refine Y2 rfl rfl rfl ?_; refine bindK h fun x1 hx1 h => ?_; refine W.chk rfl (elemB hx1) ?_; refine W.elem rfl (elemG hx1) ?_; refine W.chk rfl rfl ?_; refine W.det (.fp [.v (.int .i64 x1.Author), .v (.int .i64 x1.Seq), .fz (List.map (encI .i64) x1.Causes), .v (.int .i64 x1.Kind), .v (.int .i64 x1.Group), .v (.int .i64 x1.Target), .v (.int .i64 x1.Quote), .v (.int .i64 x1.Who), .v (.int .i64 x1.N), .v (.string x1.Text), .fz (List.map (encI .i64) x1.Files), .v (.int .i64 x1.Step)]) _ rfl ?_; refine Zu (.fp [.v (.int .i64 x1.Target), .v (.int .i64 x1.Quote), .v (.int .i64 x1.Who), .v (.int .i64 x1.N), .v (.string x1.Text), .fz (List.map (encI .i64) x1.Files), .v (.int .i64 x1.Step)]) rfl rfl rfl rfl ?_; refine Zpp 5 rfl ?_; refine YF rfl rfl rfl h (fun _ h => ?_) (fun _ h => ?_)
        · refine Zpb 11 rfl ?_; cases h; cases hG; exact ⟨rfl, trivial⟩
        · refine Zwp 2 rfl ?_; refine Y2 rfl rfl rfl ?_; refine W.chk rfl (elemB hx1) ?_; refine W.elem rfl (elemG hx1) ?_; refine W.chk rfl rfl ?_; refine W.det (.fp [.v (.int .i64 x1.Author), .v (.int .i64 x1.Seq), .fz (List.map (encI .i64) x1.Causes), .v (.int .i64 x1.Kind), .v (.int .i64 x1.Group), .v (.int .i64 x1.Target), .v (.int .i64 x1.Quote), .v (.int .i64 x1.Who), .v (.int .i64 x1.N), .v (.string x1.Text), .fz (List.map (encI .i64) x1.Files), .v (.int .i64 x1.Step)]) _ rfl ?_; refine Zu (.fp [.v (.int .i64 x1.Quote), .v (.int .i64 x1.Who), .v (.int .i64 x1.N), .v (.string x1.Text), .fz (List.map (encI .i64) x1.Files), .v (.int .i64 x1.Step)]) rfl rfl rfl rfl ?_; refine Zpb 8 rfl ?_; cases h; cases hG; exact ⟨rfl, trivial⟩
theorem maps_Keys_map_int_bool_int_bool_fn : FnKeys Try.prog 34 (.fn 47 []) := keys_fnk Try.keys34 Try.call34
theorem slices_Sorted_int_fn_47 {ks rs : List Int} (h : sortedK ks = some rs) : FnSKeys False Try.prog 33 47 (ks.map fun k => [.v (.int .i64 k)]) (.ow 1 (List.map (encI .i64) rs)) :=
  skeys_fnk Try.keys34 Try.sorted33 ⟨fun blk off cap ss W hH hblk hsz => callsIn_wide.2 (AnyM.slices_Sort_int Try.sortK blk off cap ss W hH hblk hsz), fun p cap W => callsIn_wide.2 (AnyM.slices_Sort_int_none Try.sortK p cap W)⟩ Try.call33 Try.call46 Try.call47 h
noncomputable def debt_Asked_L1 (p_ : (List api_Event)) (p2_ : Int) (s3 : Int × (List (Int × Bool))) : Option ((Int × (List (Int × Bool))) ⊕ (((List (Int × Bool))) ⊕ ((List Int)))) :=
  (bif (decide (s3.1 < (p_.length : Int))) then
    (getI p_ s3.1).bind fun x28 =>
    (bif (x28.Kind == (1 : Int)) then
      (bif (x28.Target == p2_) then
        (event_Net x28.Author).bind fun y29 =>
        some (.inl ((IntKind.i64.wrap (s3.1 + (1 : Int))), (mputT y29 true s3.2)))
      else
        some (.inl ((IntKind.i64.wrap (s3.1 + (1 : Int))), s3.2)))
    else
      some (.inl ((IntKind.i64.wrap (s3.1 + (1 : Int))), s3.2)))
  else
    some (.inr (.inl s3.2)))
noncomputable def debt_Asked_L2 (p1_ : (List api_Sent)) (p3_ : Int) (p_ : (List api_Event)) (p2_ : Int) (s6 : Int × (List (Int × Bool))) : Option ((Int × (List (Int × Bool))) ⊕ (((List (Int × Bool))) ⊕ ((List Int)))) :=
  (bif (decide (s6.1 < (p1_.length : Int))) then
    (getI p1_ s6.1).bind fun x85 =>
    (bif (decide (x85.Step ≤ p3_)) then
      (debt_network x85.Net).bind fun y88 =>
      (bif y88 then
        (debt_about p_ x85.Event p2_).bind fun y89 =>
        (bif y89 then
          some (.inl ((IntKind.i64.wrap (s6.1 + (1 : Int))), (mputT x85.Net true s6.2)))
        else
          some (.inl ((IntKind.i64.wrap (s6.1 + (1 : Int))), s6.2)))
      else
        some (.inl ((IntKind.i64.wrap (s6.1 + (1 : Int))), s6.2)))
    else
      some (.inl ((IntKind.i64.wrap (s6.1 + (1 : Int))), s6.2)))
  else
    some (.inr (.inl s6.2)))
noncomputable def debt_Asked (p_ : (List api_Event)) (p1_ : (List api_Sent)) (p2_ : Int) (p3_ : Int) : Option ((List Int)) :=
  (bif (decide (p2_ < (0 : Int))) then
    some ([] : List Int)
  else
    (bif (decide ((p_.length : Int) ≤ p2_)) then
      some ([] : List Int)
    else
      (getI p_ p2_).bind fun x4 =>
      (bif (x4.Kind != (0 : Int)) then
        some ([] : List Int)
      else
        (event_Net x4.Author).bind fun y5 =>
        (seqF (A := (List (Int × Bool))) (
          loopF (debt_Asked_L1 p_ p2_) ((0 : Int), (mputT y5 true ([] : List (Int × Bool)))))
        fun s2 =>
          (seqF (A := (List (Int × Bool))) (
            loopF (debt_Asked_L2 p1_ p3_ p_ p2_) ((0 : Int), s2))
          fun s5 =>
            (sortedK (List.map Prod.fst (mdelT (-1 : Int) s5))).bind fun y90 =>
            some y90)))))
theorem debt_Asked_fn {p_ : (List api_Event)} {p1_ : (List api_Sent)} {p2_ : Int} {p3_ : Int} {r : (List Int)} (h : debt_Asked p_ p1_ p2_ p3_ = some r) : Fn False Try.prog 15 [VF (List.map api_Event.enc p_), VF (List.map api_Sent.enc p1_), VI p2_, VI p3_] (.ow 1 (List.map (encI .i64) r)) := by
  refine Fn.of_AW (dr := False) (F := FnX False Try.prog) (base := 0) (js := [10, 16]) mixed tok noeqs (fun _ _ _ h => h) Try.call15 Try.func15 rfl Try.ntmps15 (by rw [Try.results15]) (by simp) ?_; have hG : (fun x => x = r) r := rfl; unfold debt_Asked at h; refine Zap 2 rfl ?_; refine Zm (.row 8 1 0) (Mem.add _ 8 (.rows 1 (List.map (encI .i64) ([] : List Int)) false)) rfl rfl ?_; refine Zpp 8 rfl ?_; refine YF rfl rfl rfl h (fun _ h => ?_) (fun _ h => ?_)
  · refine Zpp 17 rfl ?_; refine Zm (.row 8 2 0) (Mem.add _ 8 (.rows 1 (List.map (encI .i64) ([] : List Int)) false)) rfl rfl ?_; refine Zpb 4 rfl ?_; cases h; cases hG; exact ⟨rfl, rfl, trivial⟩
  · refine Zwp 2 rfl ?_; refine Y2 rfl rfl rfl ?_; refine W.len rfl ?_; refine Zpp 3 rfl ?_; refine YF rfl rfl rfl h (fun _ h => ?_) (fun _ h => ?_)
    · refine Zpp 11 rfl ?_; refine Zm (.row 8 2 0) (Mem.add _ 8 (.rows 1 (List.map (encI .i64) ([] : List Int)) false)) rfl rfl ?_; refine Zpb 4 rfl ?_; cases h; cases hG; exact ⟨rfl, rfl, trivial⟩
    · refine Zwp 2 rfl ?_; refine Y2 rfl rfl rfl ?_; refine bindK h fun x4 hx4 h => ?_; refine W.chk rfl (elemB hx4) ?_; refine W.elem rfl (elemG hx4) ?_; refine W.chk rfl rfl ?_; refine W.det (.fp [.v (.int .i64 x4.Author), .v (.int .i64 x4.Seq), .fz (List.map (encI .i64) x4.Causes), .v (.int .i64 x4.Kind), .v (.int .i64 x4.Group), .v (.int .i64 x4.Target), .v (.int .i64 x4.Quote), .v (.int .i64 x4.Who), .v (.int .i64 x4.N), .v (.string x4.Text), .fz (List.map (encI .i64) x4.Files), .v (.int .i64 x4.Step)]) _ rfl ?_; refine Zu (.fp [.v (.int .i64 x4.Kind), .v (.int .i64 x4.Group), .v (.int .i64 x4.Target), .v (.int .i64 x4.Quote), .v (.int .i64 x4.Who), .v (.int .i64 x4.N), .v (.string x4.Text), .fz (List.map (encI .i64) x4.Files), .v (.int .i64 x4.Step)]) rfl rfl rfl rfl ?_; refine Zpc 5 rfl ?_; refine A.condB rfl h (fun _ h => ?_) (fun _ h => ?_)
      · refine Zcp 2 rfl ?_; refine Zm (.row 8 2 0) (Mem.add _ 8 (.rows 1 (List.map (encI .i64) ([] : List Int)) false)) rfl rfl ?_; refine Zpb 4 rfl ?_; cases h; cases hG; exact ⟨rfl, rfl, trivial⟩
      · refine Zcp 4 rfl ?_; refine Zm (.mp 30 1) (Mem.add _ 30 (.mapi (.i .i64) (mapE (Value.int .i64) vB ([] : List (Int × Bool))))) rfl rfl ?_; refine Zpp 2 rfl ?_; refine Y1 rfl ?_; refine W.chk rfl (elemB hx4) ?_; refine W.elem rfl (elemG hx4) ?_; refine W.chk rfl rfl ?_; refine W.det (.fp [.v (.int .i64 x4.Author), .v (.int .i64 x4.Seq), .fz (List.map (encI .i64) x4.Causes), .v (.int .i64 x4.Kind), .v (.int .i64 x4.Group), .v (.int .i64 x4.Target), .v (.int .i64 x4.Quote), .v (.int .i64 x4.Who), .v (.int .i64 x4.N), .v (.string x4.Text), .fz (List.map (encI .i64) x4.Files), .v (.int .i64 x4.Step)]) _ rfl ?_; refine Zo (.fp [.v (.int .i64 x4.Author), .v (.int .i64 x4.Seq), .fz (List.map (encI .i64) x4.Causes), .v (.int .i64 x4.Kind), .v (.int .i64 x4.Group), .v (.int .i64 x4.Target), .v (.int .i64 x4.Quote), .v (.int .i64 x4.Who), .v (.int .i64 x4.N), .v (.string x4.Text), .fz (List.map (encI .i64) x4.Files), .v (.int .i64 x4.Step)]) rfl rfl ?_; refine Zpp 1 rfl ?_; refine Y1 rfl ?_; refine bindK h fun y5 hy5 h => ?_; refine W.call rfl (event_Net_fn hy5) ?_; refine Zwp 1 rfl ?_; refine Y1 rfl ?_; refine W.mput (Value.int .i64) vB y5 true ([] : List (Int × Bool)) (fun _ _ => rfl) rfl ?_; refine Zo (.mp 30 1) rfl rfl ?_; refine Zo (.mp 30 1) rfl rfl ?_; refine Zpc 2 rfl ?_; refine A.join (fun (s2 : (List (Int × Bool))) => [(0, VF (List.map api_Event.enc p_)), (1, VF (List.map api_Sent.enc p1_)), (2, VI p2_), (3, VI p3_), (9, .mp 900000 1)]) (fun s2 => [(900000, .mapi (.i .i64) (mapE (Value.int .i64) vB s2))]) _ h hG rfl ?_ ?_
        · intro J f h hG; refine Zap 3 rfl ?_; refine Y1 rfl ?_; refine W.len rfl ?_; refine Zpc 4 rfl ?_; refine A.loop (fun (s3 : Int × (List (Int × Bool))) => [(0, VF (List.map api_Event.enc p_)), (1, VF (List.map api_Sent.enc p1_)), (2, VI p2_), (3, VI p3_), (9, .mp 900000 1), (38, VF (List.map api_Event.enc p_)), (39, VI (p_.length : Int)), (40, VI s3.1)]) (fun s3 => [(900000, .mapi (.i .i64) (mapE (Value.int .i64) vB s3.2))]) _ h hG (Zf [] [(900000, (30, 1))] rfl rfl (Ze rfl rfl (Ze rfl rfl (Ze rfl rfl (Ze rfl rfl (Ze rfl rfl (Ze rfl rfl (Ze rfl rfl (Ze rfl rfl trivial)))))))) (Zc rfl rfl trivial)) ?_; intro J s3 f h hG; unfold debt_Asked_L1 at h; refine Zac 6 rfl ?_; refine A.condB rfl h (fun _ h => ?_) (fun _ h => ?_)
          · refine Zcp 6 rfl ?_; refine Y1 rfl ?_; refine bindK h fun x28 hx28 h => ?_; refine W.chk rfl (elemB hx28) ?_; refine W.elem rfl (elemG hx28) ?_; refine W.chk rfl rfl ?_; refine W.det (.fp [.v (.int .i64 x28.Author), .v (.int .i64 x28.Seq), .fz (List.map (encI .i64) x28.Causes), .v (.int .i64 x28.Kind), .v (.int .i64 x28.Group), .v (.int .i64 x28.Target), .v (.int .i64 x28.Quote), .v (.int .i64 x28.Who), .v (.int .i64 x28.N), .v (.string x28.Text), .fz (List.map (encI .i64) x28.Files), .v (.int .i64 x28.Step)]) _ rfl ?_; refine Zo (.agg (api_Event.av x28)) rfl rfl ?_; refine Zm (.lp 11 2 0) (Mem.add (Mem.add (Mem.add _ 196619 (.rows 1 (List.map (encI .i64) ([] : List Int)) false)) 720907 (.rows 1 (List.map (encI .i64) ([] : List Int)) false)) 11 (.box [VI 0, VI 0, .row 196619 2 0, VI 0, VI 0, VI 0, VI 0, VI 0, VI 0, VS (ByteArray.mk #[]), .row 720907 2 0, VI 0])) rfl rfl ?_; refine Zm (.tup []) (Mem.set _ 11 2 (some (.box (api_Event.av x28)))) rfl rfl ?_; refine Zpp 8 rfl ?_; refine YT rfl rfl rfl h (fun _ h => ?_) (fun _ h => ?_)
            · refine Zwc 7 rfl ?_; refine A.condB rfl h (fun _ h => ?_) (fun _ h => ?_)
              · refine Zcp 1 rfl ?_; refine Zo (.mp 900000 1) rfl rfl ?_; refine Zpp 2 rfl ?_; refine Y1 rfl ?_; refine bindK h fun y29 hy29 h => ?_; refine W.call rfl (event_Net_fn hy29) ?_; refine Zwp 1 rfl ?_; refine Y1 rfl ?_; refine W.mput (Value.int .i64) vB y29 true s3.2 (fun _ _ => rfl) rfl ?_; refine Zpb 7 rfl ?_; cases h; exact Zh hG [] [(900000, (900000, 1))] rfl rfl (Ze rfl rfl (Ze rfl rfl (Ze rfl rfl (Ze rfl rfl (Ze rfl rfl (Ze rfl rfl (Ze rfl rfl (Ze rfl rfl trivial)))))))) (Zc rfl rfl trivial)
              · refine Zcb 7 rfl ?_; cases h; exact Zh hG [] [(900000, (900000, 1))] rfl rfl (Ze rfl rfl (Ze rfl rfl (Ze rfl rfl (Ze rfl rfl (Ze rfl rfl (Ze rfl rfl (Ze rfl rfl (Ze rfl rfl trivial)))))))) (Zc rfl rfl trivial)
            · refine Zpb 14 rfl ?_; cases h; exact Zh hG [] [(900000, (900000, 1))] rfl rfl (Ze rfl rfl (Ze rfl rfl (Ze rfl rfl (Ze rfl rfl (Ze rfl rfl (Ze rfl rfl (Ze rfl rfl (Ze rfl rfl trivial)))))))) (Zc rfl rfl trivial)
          · refine Zcb 2 rfl ?_; refine headK.e ?_; refine Zob 1 rfl ?_; cases h; exact Zh hG [] [(900000, (900000, 1))] rfl rfl (Ze rfl rfl (Ze rfl rfl (Ze rfl rfl (Ze rfl rfl (Ze rfl rfl trivial))))) (Zc rfl rfl trivial)
        · intro s2 r2 h hG; refine A.join (fun (s5 : (List (Int × Bool))) => [(9, .mp 900000 1)]) (fun s5 => [(900000, .mapi (.i .i64) (mapE (Value.int .i64) vB s5))]) _ h hG rfl ?_ ?_
          · intro J f h hG; refine Zap 3 rfl ?_; refine Y1 rfl ?_; refine W.len rfl ?_; refine Zpc 4 rfl ?_; refine A.loop (fun (s6 : Int × (List (Int × Bool))) => [(0, VF (List.map api_Event.enc p_)), (2, VI p2_), (3, VI p3_), (9, .mp 900000 1), (58, VF (List.map api_Sent.enc p1_)), (59, VI (p1_.length : Int)), (60, VI s6.1)]) (fun s6 => [(900000, .mapi (.i .i64) (mapE (Value.int .i64) vB s6.2))]) _ h hG (Zf [] [(900000, (900000, 1))] rfl rfl (Ze rfl rfl (Ze rfl rfl (Ze rfl rfl (Ze rfl rfl (Ze rfl rfl (Ze rfl rfl (Ze rfl rfl trivial))))))) (Zc rfl rfl trivial)) ?_; intro J s6 f h hG; unfold debt_Asked_L2 at h; refine Zac 6 rfl ?_; refine A.condB rfl h (fun _ h => ?_) (fun _ h => ?_)
            · refine Zcp 6 rfl ?_; refine Y1 rfl ?_; refine bindK h fun x85 hx85 h => ?_; refine W.chk rfl (elemB hx85) ?_; refine W.elem rfl (elemG hx85) ?_; refine W.chk rfl rfl ?_; refine W.det (.fp [.v (.int .i64 x85.Event), .v (.int .i64 x85.Net), .v (.int .i64 x85.Step)]) _ rfl ?_; refine Zo (.agg (api_Sent.av x85)) rfl rfl ?_; refine Zm (.lp 13 2 0) (Mem.add _ 13 (.box [VI 0, VI 0, VI 0])) rfl rfl ?_; refine Zm (.tup []) (Mem.set _ 13 2 (some (.box (api_Sent.av x85)))) rfl rfl ?_; refine Zpp 9 rfl ?_; refine YT rfl rfl rfl h (fun _ h => ?_) (fun _ h => ?_)
              · refine Zwp 2 rfl ?_; refine Y2 rfl rfl rfl ?_; refine bindK h fun y88 hy88 h => ?_; refine W.call rfl (debt_network_fn hy88) ?_; refine Zwp 3 rfl ?_; refine YT rfl rfl rfl h (fun _ h => ?_) (fun _ h => ?_)
                · refine Zwp 4 rfl ?_; refine Y2 rfl rfl rfl ?_; refine bindK h fun y89 hy89 h => ?_; refine W.call rfl (debt_about_fn hy89) ?_; refine Zwc 4 rfl ?_; refine A.condB rfl h (fun _ h => ?_) (fun _ h => ?_)
                  · refine Zcp 1 rfl ?_; refine Zo (.mp 900000 1) rfl rfl ?_; refine Zpp 2 rfl ?_; refine Y1 rfl ?_; refine W.mput (Value.int .i64) vB x85.Net true s6.2 (fun _ _ => rfl) rfl ?_; refine Zpb 7 rfl ?_; cases h; exact Zh hG [] [(900000, (900000, 1))] rfl rfl (Ze rfl rfl (Ze rfl rfl (Ze rfl rfl (Ze rfl rfl (Ze rfl rfl (Ze rfl rfl (Ze rfl rfl trivial))))))) (Zc rfl rfl trivial)
                  · refine Zcb 7 rfl ?_; cases h; exact Zh hG [] [(900000, (900000, 1))] rfl rfl (Ze rfl rfl (Ze rfl rfl (Ze rfl rfl (Ze rfl rfl (Ze rfl rfl (Ze rfl rfl (Ze rfl rfl trivial))))))) (Zc rfl rfl trivial)
                · refine Zpb 15 rfl ?_; cases h; exact Zh hG [] [(900000, (900000, 1))] rfl rfl (Ze rfl rfl (Ze rfl rfl (Ze rfl rfl (Ze rfl rfl (Ze rfl rfl (Ze rfl rfl (Ze rfl rfl trivial))))))) (Zc rfl rfl trivial)
              · refine Zpb 20 rfl ?_; cases h; exact Zh hG [] [(900000, (900000, 1))] rfl rfl (Ze rfl rfl (Ze rfl rfl (Ze rfl rfl (Ze rfl rfl (Ze rfl rfl (Ze rfl rfl (Ze rfl rfl trivial))))))) (Zc rfl rfl trivial)
            · refine Zcb 2 rfl ?_; refine headK.e ?_; refine Zob 1 rfl ?_; cases h; exact Zh hG [] [(900000, (900000, 1))] rfl rfl (Ze rfl rfl trivial) (Zc rfl rfl trivial)
          · intro s5 r2 h hG; refine Zcp 2 rfl ?_; refine Zo (.mp 900000 1) rfl rfl ?_; refine Y1 rfl ?_; refine W.mdel (Value.int .i64) vB (-1 : Int) s5 (fun _ _ => rfl) rfl ?_; refine Zpp 4 rfl ?_; refine Zo (.mp 900000 1) rfl rfl ?_; refine Y1 rfl ?_; refine W.call rfl maps_Keys_map_int_bool_int_bool_fn ?_; refine W.det (.fn 47 [.lp 86 2 0]) (Mem.add _ 86 (.box [.mp 900000 1])) rfl ?_; refine Y1 rfl ?_; refine bindK h fun y90 hy90 h => ?_; refine W.call rfl (fnx_skeys (slices_Sorted_int_fn_47 hy90)) ?_; refine W.v (.row 87 2 (List.map (encI .i64) y90).length) (.row 87 2 y90.length) (Mem.add _ 87 (.rows 1 (List.map (encI .i64) y90) false)) rfl (by simp only [List.length_map]) ?_; refine Zo (.row 87 2 y90.length) rfl rfl ?_; refine Zpb 3 rfl ?_; cases h; cases hG; exact ⟨rfl, rfl, trivial⟩
noncomputable def ref44_Ints_L1 (a_ : (List Int)) (b_ : (List Int)) (s3 : Int) : Option ((Int) ⊕ ((Unit) ⊕ (Bool))) :=
  (bif (decide (s3 < (a_.length : Int))) then
    (getI a_ s3).bind fun x23 =>
    (getI b_ s3).bind fun x24 =>
    (bif (x23 != x24) then
      some (.inr (.inr false))
    else
      some (.inl (IntKind.i64.wrap (s3 + (1 : Int)))))
  else
    some (.inr (.inl ())))
noncomputable def ref44_Ints (a_ : (List Int)) (b_ : (List Int)) : Option (Bool) :=
  (bif ((a_.length : Int) != (b_.length : Int)) then
    some false
  else
    (seqF (A := Unit) (
      loopF (ref44_Ints_L1 a_ b_) (0 : Int))
    fun s2 =>
      some true))
theorem ref44_Ints_fn {dr : Prop} {a_ : (List Int)} {b_ : (List Int)} {r : Bool} (h : ref44_Ints a_ b_ = some r) : Fn dr Try.prog 14 [VF (List.map (encI .i64) a_), VF (List.map (encI .i64) b_)] (VB r) := by
  refine Fn.of_AW (dr := dr) (F := FnX dr Try.prog) (base := 0) (js := [8]) mixed tok noeqs (fun _ _ _ h => h) Try.call14 Try.func14 rfl Try.ntmps14 (by rw [Try.results14]) (by simp) ?_; have hG : (fun x => x = r) r := rfl; unfold ref44_Ints at h; refine Zap 9 rfl ?_; refine Y1 rfl ?_; refine W.len rfl ?_; refine Zpp 1 rfl ?_; refine Y1 rfl ?_; refine W.len rfl ?_; refine Zpc 3 rfl ?_; refine A.condB rfl h (fun _ h => ?_) (fun _ h => ?_)
  · refine Zcb 7 rfl ?_; cases h; cases hG; exact ⟨rfl, trivial⟩
  · refine Zcc 2 rfl ?_; refine A.join (fun (s2 : Unit) => []) (fun s2 => []) _ h hG rfl ?_ ?_
    · intro J f h hG; refine Zac 6 rfl ?_; refine A.loop (fun (s3 : Int) => [(0, VF (List.map (encI .i64) a_)), (1, VF (List.map (encI .i64) b_)), (5, VI s3)]) (fun s3 => []) _ h hG (Zf [] [] rfl rfl (Ze rfl rfl (Ze rfl rfl (Ze rfl rfl trivial))) trivial) ?_; intro J s3 f h hG; unfold ref44_Ints_L1 at h; refine Zap 5 rfl ?_; refine Y1 rfl ?_; refine W.len rfl ?_; refine Zpc 3 rfl ?_; refine A.condB rfl h (fun _ h => ?_) (fun _ h => ?_)
      · refine Zcc 5 rfl ?_; refine A.regionD (by kernel_rfl) ?_; refine Zpp 2 rfl ?_; refine Y1 rfl ?_; refine bindK h fun x23 hx23 h => ?_; refine W.chk rfl (elemB hx23) ?_; refine W.elem rfl (elemG hx23) ?_; refine W.chk rfl rfl ?_; refine W.det (.fp [.v (.int .i64 x23)]) _ rfl ?_; refine Zpp 3 rfl ?_; refine Y1 rfl ?_; refine bindK h fun x24 hx24 h => ?_; refine W.chk rfl (elemB hx24) ?_; refine W.elem rfl (elemG hx24) ?_; refine W.chk rfl rfl ?_; refine W.det (.fp [.v (.int .i64 x24)]) _ rfl ?_; refine Zpc 4 rfl ?_; refine A.condB rfl h (fun _ h => ?_) (fun _ h => ?_)
        · refine Zcb 8 rfl ?_; refine headK.r ?_; refine Zob 1 rfl ?_; refine headK.r ?_; cases h; cases hG; exact ⟨rfl, trivial⟩
        · refine Zcb 8 rfl ?_; cases h; exact Zh hG [] [] rfl rfl (Ze rfl rfl (Ze rfl rfl (Ze rfl rfl trivial))) trivial
      · refine Zcb 2 rfl ?_; refine headK.e ?_; refine Zob 1 rfl ?_; cases h; exact Zh hG [] [] rfl rfl trivial trivial
    · intro s2 r2 h hG; refine Zcb 6 rfl ?_; cases h; cases hG; exact ⟨rfl, trivial⟩
structure api_Debt where
  Event : Int
  Net : Int
def api_Debt.enc (x : api_Debt) : List D := [.v (.int .i64 x.Event), .v (.int .i64 x.Net)]
abbrev api_Debt.av (x : api_Debt) : List AV := [VI x.Event, VI x.Net]
noncomputable def slices_Index_api_Debt_api_Debt_L1 (s_ : (List api_Debt)) (v_ : api_Debt) (s3 : Int) : Option ((Int) ⊕ ((Unit) ⊕ (Int))) :=
  (bif (decide (s3 < (s_.length : Int))) then
    (getI s_ s3).bind fun x12 =>
    (bif ((v_.Event == x12.Event) && ((v_.Net == x12.Net) && true)) then
      some (.inr (.inr s3))
    else
      some (.inl (IntKind.i64.wrap (s3 + (1 : Int)))))
  else
    some (.inr (.inl ())))
noncomputable def slices_Index_api_Debt_api_Debt (s_ : (List api_Debt)) (v_ : api_Debt) : Option (Int) :=
  (seqF (A := Unit) (
    loopF (slices_Index_api_Debt_api_Debt_L1 s_ v_) (0 : Int))
  fun s2 =>
    some (-1 : Int))
theorem slices_Index_api_Debt_api_Debt_fn {dr : Prop} {s_ : (List api_Debt)} {v_ : api_Debt} {r : Int} (h : slices_Index_api_Debt_api_Debt s_ v_ = some r) : Fn dr Try.prog 50 [VF (List.map api_Debt.enc s_), .agg (api_Debt.av v_)] (VI r) := by
  refine Fn.of_AW (dr := dr) (F := FnX dr Try.prog) (base := 0) (js := [7]) mixed tok noeqs (fun _ _ _ h => h) Try.call50 Try.func50 rfl Try.ntmps50 (by rw [Try.results50]) (by simp) ?_; have hG : (fun x => x = r) r := rfl; unfold slices_Index_api_Debt_api_Debt at h; refine Zap 2 rfl ?_; refine Zm (.lp 3 1 0) (Mem.add _ 3 (.box (api_Debt.av v_))) rfl rfl ?_; refine Zpc 3 rfl ?_; refine A.join (fun (s2 : Unit) => []) (fun s2 => []) _ h hG rfl ?_ ?_
  · intro J f h hG; refine Zap 3 rfl ?_; refine Y1 rfl ?_; refine W.len rfl ?_; refine Zpc 4 rfl ?_; refine A.loop (fun (s3 : Int) => [(0, VF (List.map api_Debt.enc s_)), (3, .lp 900000 1 0), (7, VI (s_.length : Int)), (8, VI s3)]) (fun s3 => [(900000, .box (api_Debt.av v_))]) _ h hG (Zf [] [(900000, (3, 1))] rfl rfl (Ze rfl rfl (Ze rfl rfl (Ze rfl rfl (Ze rfl rfl trivial)))) (Zc rfl rfl trivial)) ?_; intro J s3 f h hG; unfold slices_Index_api_Debt_api_Debt_L1 at h; refine Zac 6 rfl ?_; refine A.condB rfl h (fun _ h => ?_) (fun _ h => ?_)
    · refine Zcc 11 rfl ?_; refine A.regionD (by kernel_rfl) ?_; refine Zo (.agg (api_Debt.av v_)) rfl rfl ?_; refine Zpp 2 rfl ?_; refine Y1 rfl ?_; refine bindK h fun x12 hx12 h => ?_; refine W.chk rfl (elemB hx12) ?_; refine W.elem rfl (elemG hx12) ?_; refine W.chk rfl rfl ?_; refine W.det (.fp [.v (.int .i64 x12.Event), .v (.int .i64 x12.Net)]) _ rfl ?_; refine Zo (.agg (api_Debt.av x12)) rfl rfl ?_; refine Zpc 3 rfl ?_; refine A.condB rfl h (fun _ h => ?_) (fun _ h => ?_)
      · refine Zcb 9 rfl ?_; refine headK.r ?_; refine Zob 1 rfl ?_; refine headK.r ?_; cases h; cases hG; exact ⟨rfl, trivial⟩
      · refine Zcb 7 rfl ?_; cases h; exact Zh hG [] [(900000, (900000, 1))] rfl rfl (Ze rfl rfl (Ze rfl rfl (Ze rfl rfl (Ze rfl rfl trivial)))) (Zc rfl rfl trivial)
    · refine Zcb 2 rfl ?_; refine headK.e ?_; refine Zob 1 rfl ?_; cases h; exact Zh hG [] [] rfl rfl trivial trivial
  · intro s2 r2 h hG; refine Zcb 6 rfl ?_; cases h; cases hG; exact ⟨rfl, trivial⟩
noncomputable def slices_Contains_api_Debt_api_Debt (s_ : (List api_Debt)) (v_ : api_Debt) : Option (Bool) :=
  (slices_Index_api_Debt_api_Debt s_ v_).bind fun y1 =>
  some (decide ((0 : Int) ≤ y1))
theorem slices_Contains_api_Debt_api_Debt_fn {dr : Prop} {s_ : (List api_Debt)} {v_ : api_Debt} {r : Bool} (h : slices_Contains_api_Debt_api_Debt s_ v_ = some r) : Fn dr Try.prog 36 [VF (List.map api_Debt.enc s_), .agg (api_Debt.av v_)] (VB r) := by
  refine Fn.of_AW (dr := dr) (F := FnX dr Try.prog) (base := 0) (js := []) mixed tok noeqs (fun _ _ _ h => h) Try.call36 Try.func36 rfl Try.ntmps36 (by rw [Try.results36]) (by simp) ?_; have hG : (fun x => x = r) r := rfl; unfold slices_Contains_api_Debt_api_Debt at h; refine Zap 2 rfl ?_; refine Zm (.lp 3 1 0) (Mem.add _ 3 (.box (api_Debt.av v_))) rfl rfl ?_; refine Zpp 6 rfl ?_; refine Zo (.agg (api_Debt.av v_)) rfl rfl ?_; refine Y1 rfl ?_; refine bindK h fun y1 hy1 h => ?_; refine W.call rfl (slices_Index_api_Debt_api_Debt_fn hy1) ?_; refine Zwb 6 rfl ?_; cases h; cases hG; exact ⟨rfl, trivial⟩
theorem slices_SortFunc_api_Debt_api_Debt_fn {dr : Prop} {c : api_Debt → api_Debt → Option Int} {cF : FuncId} {cC : List AV} (cH : cC.all capd = true) (cP : ∀ (q0 q1 : api_Debt) (z : Int), c q0 q1 = some z → Fn True Try.prog cF ([.agg (api_Debt.av q0), .agg (api_Debt.av q1)] ++ cC) (VI z)) {l r : List api_Debt} (h : sortF c l = some r) : FnW dr Try.prog 37 2 (List.map api_Debt.enc l) [.fn cF cC] (.ow 2 (List.map api_Debt.enc r)) :=
  sortF_fnw api_Debt.enc (fun _ => rfl) (by decide) Try.call37 (fun α _ enc hk h1 cf hO g cb blk off cap d w eg hcmp hH hblk hsz => AnyQ.slices_SortFunc Try.sort37 2 Try.isAgg27 Try.sizeOf27 enc hk h1 cf hO g cb blk off cap d w eg hcmp hH hblk hsz) (fun p cap fv w => AnyF.slices_SortFunc_none Try.sort37 p cap fv w) cH cP h
noncomputable def cmp_isNaN_int (x_ : Int) : Option (Bool) :=
  some (x_ != x_)
theorem cmp_isNaN_int_fn {dr : Prop} {x_ : Int} {r : Bool} (h : cmp_isNaN_int x_ = some r) : Fn dr Try.prog 53 [VI x_] (VB r) := by
  refine Fn.of_AW (dr := dr) (F := FnX dr Try.prog) (base := 0) (js := []) mixed tok noeqs (fun _ _ _ h => h) Try.call53 Try.func53 rfl Try.ntmps53 (by rw [Try.results53]) (by simp) ?_; have hG : (fun x => x = r) r := rfl; unfold cmp_isNaN_int at h; refine Zab 14 rfl ?_; cases h; cases hG; exact ⟨rfl, trivial⟩
noncomputable def cmp_Compare_int (x_ : Int) (y_ : Int) : Option (Int) :=
  (cmp_isNaN_int x_).bind fun y1 =>
  (cmp_isNaN_int y_).bind fun y2 =>
  (bif y1 then
    (bif y2 then
      some (0 : Int)
    else
      some (-1 : Int))
  else
    (bif y2 then
      some (1 : Int)
    else
      (bif (decide (x_ < y_)) then
        some (-1 : Int)
      else
        (bif (decide (y_ < x_)) then
          some (1 : Int)
        else
          some (0 : Int)))))
theorem cmp_Compare_int_fn {dr : Prop} {x_ : Int} {y_ : Int} {r : Int} (h : cmp_Compare_int x_ y_ = some r) : Fn dr Try.prog 41 [VI x_, VI y_] (VI r) := by
  refine Fn.of_AW (dr := dr) (F := FnX dr Try.prog) (base := 0) (js := []) mixed tok noeqs (fun _ _ _ h => h) Try.call41 Try.func41 rfl Try.ntmps41 (by rw [Try.results41]) (by simp) ?_; have hG : (fun x => x = r) r := rfl; unfold cmp_Compare_int at h; refine Zap 8 rfl ?_; refine Y1 rfl ?_; refine bindK h fun y1 hy1 h => ?_; refine W.call rfl (cmp_isNaN_int_fn hy1) ?_; refine Zwp 7 rfl ?_; refine Y1 rfl ?_; refine bindK h fun y2 hy2 h => ?_; refine W.call rfl (cmp_isNaN_int_fn hy2) ?_; refine Zwc 10 rfl ?_; refine A.condB rfl h (fun _ h => ?_) (fun _ h => ?_)
  · refine Zcc 6 rfl ?_; refine A.condB rfl h (fun _ h => ?_) (fun _ h => ?_)
    · refine Zcb 8 rfl ?_; cases h; cases hG; exact ⟨rfl, trivial⟩
    · refine Zcb 9 rfl ?_; cases h; cases hG; exact ⟨rfl, trivial⟩
  · refine Zcc 8 rfl ?_; refine A.condB rfl h (fun _ h => ?_) (fun _ h => ?_)
    · refine Zcb 7 rfl ?_; cases h; cases hG; exact ⟨rfl, trivial⟩
    · refine Zcc 10 rfl ?_; refine A.condB rfl h (fun _ h => ?_) (fun _ h => ?_)
      · refine Zcb 7 rfl ?_; cases h; cases hG; exact ⟨rfl, trivial⟩
      · refine Zcc 10 rfl ?_; refine A.condB rfl h (fun _ h => ?_) (fun _ h => ?_)
        · refine Zcb 7 rfl ?_; cases h; cases hG; exact ⟨rfl, trivial⟩
        · refine Zcb 8 rfl ?_; cases h; cases hG; exact ⟨rfl, trivial⟩
noncomputable def cmp_Or_int_L1 (vals_ : (List Int)) (s3 : Int) : Option ((Int) ⊕ ((Unit) ⊕ (Int))) :=
  (bif (decide (s3 < (vals_.length : Int))) then
    (getI vals_ s3).bind fun x12 =>
    (bif (x12 != (0 : Int)) then
      some (.inr (.inr x12))
    else
      some (.inl (IntKind.i64.wrap (s3 + (1 : Int)))))
  else
    some (.inr (.inl ())))
noncomputable def cmp_Or_int (vals_ : (List Int)) : Option (Int) :=
  (seqF (A := Unit) (
    loopF (cmp_Or_int_L1 vals_) (0 : Int))
  fun s2 =>
    some (0 : Int))
theorem cmp_Or_int_fn {dr : Prop} {vals_ : (List Int)} {r : Int} (h : cmp_Or_int vals_ = some r) : Fn dr Try.prog 40 [VF (List.map (encI .i64) vals_)] (VI r) := by
  refine Fn.of_AW (dr := dr) (F := FnX dr Try.prog) (base := 0) (js := [8]) mixed tok noeqs (fun _ _ _ h => h) Try.call40 Try.func40 rfl Try.ntmps40 (by rw [Try.results40]) (by simp) ?_; have hG : (fun x => x = r) r := rfl; unfold cmp_Or_int at h; refine Zac 10 rfl ?_; refine A.join (fun (s2 : Unit) => [(3, VI 0)]) (fun s2 => []) _ h hG rfl ?_ ?_
  · intro J f h hG; refine Zap 3 rfl ?_; refine Y1 rfl ?_; refine W.len rfl ?_; refine Zpc 4 rfl ?_; refine A.loop (fun (s3 : Int) => [(3, VI 0), (6, VF (List.map (encI .i64) vals_)), (7, VI (vals_.length : Int)), (8, VI s3)]) (fun s3 => []) _ h hG (Zf [] [] rfl rfl (Ze rfl rfl (Ze rfl rfl (Ze rfl rfl (Ze rfl rfl trivial)))) trivial) ?_; intro J s3 f h hG; unfold cmp_Or_int_L1 at h; refine Zac 6 rfl ?_; refine A.condB rfl h (fun _ h => ?_) (fun _ h => ?_)
    · refine Zcp 6 rfl ?_; refine Y1 rfl ?_; refine bindK h fun x12 hx12 h => ?_; refine W.chk rfl (elemB hx12) ?_; refine W.elem rfl (elemG hx12) ?_; refine W.chk rfl rfl ?_; refine W.det (.fp [.v (.int .i64 x12)]) _ rfl ?_; refine Zpc 11 rfl ?_; refine A.condB rfl h (fun _ h => ?_) (fun _ h => ?_)
      · refine Zcb 9 rfl ?_; refine headK.r ?_; refine Zob 1 rfl ?_; refine headK.r ?_; cases h; cases hG; exact ⟨rfl, trivial⟩
      · refine Zcb 7 rfl ?_; cases h; exact Zh hG [] [] rfl rfl (Ze rfl rfl (Ze rfl rfl (Ze rfl rfl (Ze rfl rfl trivial)))) trivial
    · refine Zcb 2 rfl ?_; refine headK.e ?_; refine Zob 1 rfl ?_; cases h; exact Zh hG [] [] rfl rfl (Ze rfl rfl trivial) trivial
  · intro s2 r2 h hG; refine Zcb 7 rfl ?_; cases h; cases hG; exact ⟨rfl, trivial⟩
noncomputable def debt_compare (a_ : api_Debt) (b_ : api_Debt) : Option (Int) :=
  (cmp_Compare_int a_.Event b_.Event).bind fun y1 =>
  (cmp_Compare_int a_.Net b_.Net).bind fun y2 =>
  (cmp_Or_int [y1, y2]).bind fun y3 =>
  some y3
theorem debt_compare_fn {dr : Prop} {a_ : api_Debt} {b_ : api_Debt} {r : Int} (h : debt_compare a_ b_ = some r) : Fn dr Try.prog 24 [.agg (api_Debt.av a_), .agg (api_Debt.av b_)] (VI r) := by
  refine Fn.of_AW (dr := dr) (F := FnX dr Try.prog) (base := 0) (js := []) mixed tok noeqs (fun _ _ _ h => h) Try.call24 Try.func24 rfl Try.ntmps24 (by rw [Try.results24]) (by simp) ?_; have hG : (fun x => x = r) r := rfl; unfold debt_compare at h; refine Zap 2 rfl ?_; refine Zm (.lp 2 1 0) (Mem.add _ 2 (.box (api_Debt.av a_))) rfl rfl ?_; refine Zm (.lp 3 1 0) (Mem.add _ 3 (.box (api_Debt.av b_))) rfl rfl ?_; refine Zpc 4 rfl ?_; refine A.regionD (by kernel_rfl) ?_; refine Zpp 4 rfl ?_; refine Y1 rfl ?_; refine bindK h fun y1 hy1 h => ?_; refine W.call rfl (cmp_Compare_int_fn hy1) ?_; refine Zwp 5 rfl ?_; refine Y1 rfl ?_; refine bindK h fun y2 hy2 h => ?_; refine W.call rfl (cmp_Compare_int_fn hy2) ?_; refine Zwp 1 rfl ?_; refine Zm (.row 15 1 2) (Mem.add _ 15 (.rows 1 (List.map (encI .i64) [y1, y2]) false)) rfl rfl ?_; refine Y1 rfl ?_; refine bindK h fun y3 hy3 h => ?_; refine W.call rfl (cmp_Or_int_fn hy3) ?_; refine Zwb 5 rfl ?_; cases h; cases hG; exact ⟨rfl, trivial⟩
theorem api_Debt_plain (x : api_Debt) : ∀ d ∈ api_Debt.enc x, ∃ v : Value, d = .v v := by
  intro d hd
  simp only [api_Debt.enc, List.mem_cons, List.not_mem_nil, or_false] at hd
  rcases hd with rfl | rfl <;> exact ⟨_, rfl⟩
noncomputable def slices_Compact_api_Debt_api_Debt_L1 (s_ : (List api_Debt)) (s24 : (Int)) (s45 : Int × Int × (List api_Debt)) : Option ((Int × Int × (List api_Debt)) ⊕ ((Int × (List api_Debt)) ⊕ ((Unit) ⊕ ((Int) ⊕ ((Unit) ⊕ ((List api_Debt))))))) :=
  (bif (decide (s45.2.1 < (((((s_.length : Nat) : Int) - s24).toNat : Nat) : Int))) then
    (chkO (decide (0 ≤ s45.2.1) && decide (s45.2.1 < (((((s_.length : Nat) : Int) - s24).toNat : Nat) : Int)))).bind fun _ =>
    (getI s45.2.2 (((s24.toNat + s45.2.1.toNat) : Nat) : Int)).bind fun x1085 =>
    (chkO (decide (0 ≤ (IntKind.i64.wrap (s45.2.1 - (1 : Int)))) && decide ((IntKind.i64.wrap (s45.2.1 - (1 : Int))) < (((((s_.length : Nat) : Int) - s24).toNat : Nat) : Int)))).bind fun _ =>
    (getI s45.2.2 (((s24.toNat + (IntKind.i64.wrap (s45.2.1 - (1 : Int))).toNat) : Nat) : Int)).bind fun x1087 =>
    (bif (!((x1085.Event == x1087.Event) && ((x1085.Net == x1087.Net) && true))) then
      (chkO (decide (0 ≤ s45.1) && decide (s45.1 < ((s45.2.2.length : Nat) : Int)))).bind fun _ =>
      (getI s45.2.2 s45.1).bind fun x1090 =>
      some (.inl ((IntKind.i64.wrap (s45.1 + (1 : Int))), (IntKind.i64.wrap (s45.2.1 + (1 : Int))), (List.set s45.2.2 s45.1.toNat x1085)))
    else
      some (.inl (s45.1, (IntKind.i64.wrap (s45.2.1 + (1 : Int))), s45.2.2)))
  else
    some (.inr (.inl (s45.1, s45.2.2))))
noncomputable def slices_Compact_api_Debt_api_Debt_L2 (s_ : (List api_Debt)) (s24 : Int) : Option ((Int) ⊕ ((Unit) ⊕ ((List api_Debt)))) :=
  (bif (decide (s24 < ((s_.length : Nat) : Int))) then
    (seqF (A := Unit) (
      (chkO (decide (0 ≤ s24) && decide (s24 < ((s_.length : Nat) : Int)))).bind fun _ =>
      (getI s_ s24).bind fun x1003 =>
      (chkO (decide (0 ≤ (IntKind.i64.wrap (s24 - (1 : Int)))) && decide ((IntKind.i64.wrap (s24 - (1 : Int))) < ((s_.length : Nat) : Int)))).bind fun _ =>
      (getI s_ (IntKind.i64.wrap (s24 - (1 : Int)))).bind fun x1005 =>
      (bif ((x1003.Event == x1005.Event) && ((x1003.Net == x1005.Net) && true)) then
        (chkO (cutO s24 ((s_.length : Nat) : Int) ((s_.length : Nat) : Int))).bind fun _ =>
        (seqF (A := Int × (List api_Debt)) (
          loopF (slices_Compact_api_Debt_api_Debt_L1 s_ s24) (s24, (1 : Int), s_))
        fun s44 =>
          (chkO (cutO s44.1 ((s44.2.length : Nat) : Int) ((s44.2.length : Nat) : Int))).bind fun _ =>
          (chkO (cutO (0 : Int) s44.1 ((s44.2.length : Nat) : Int))).bind fun _ =>
          some (.inr (.inr (.inr (List.take (s44.1 - (0 : Int)).toNat (List.take s44.1.toNat s44.2 ++ List.replicate (((s44.2.length : Nat) : Int) - s44.1).toNat (api_Debt.mk (0 : Int) (0 : Int)) ++ List.drop (s44.1.toNat + (((s44.2.length : Nat) : Int) - s44.1).toNat) s44.2))))))
      else
        some (.inl ())))
    fun s42 =>
      some (.inl (IntKind.i64.wrap (s24 + (1 : Int)))))
  else
    some (.inr (.inl ())))
noncomputable def slices_Compact_api_Debt_api_Debt (s_ : (List api_Debt)) : Option ((List api_Debt)) :=
  (bif (decide (((s_.length : Nat) : Int) < (2 : Int))) then
    some s_
  else
    (seqF (A := Unit) (
      loopF (slices_Compact_api_Debt_api_Debt_L2 s_) (1 : Int))
    fun s23 =>
      some s_))
theorem slices_Compact_api_Debt_api_Debt_fn {dr : Prop} {s_ : (List api_Debt)} {r : (List api_Debt)} (h : slices_Compact_api_Debt_api_Debt s_ = some r) : FnW dr Try.prog 38 2 (List.map api_Debt.enc s_) [] (.tup [.ow 2 (List.map api_Debt.enc r)]) := by
  refine FnW.of_AW (n := s_.length) (dr := dr) (F := FnX dr Try.prog) (base := 0) (js := [5, 14, 16]) mixed tok noeqs (fun _ _ _ h => h) Try.call38 Try.func38 rfl Try.ntmps38 (by rw [Try.results38]) (by simp) (by simp) ?_; have hG : (fun x => x = r) r := rfl; unfold slices_Compact_api_Debt_api_Debt at h; refine Zap 2 rfl ?_; refine Zm (.row 2 1 0) (Mem.add _ 2 (.rows 2 (List.map api_Debt.enc ([] : List api_Debt)) false)) rfl rfl ?_; refine Zpp 5 rfl ?_; refine Zo (.row 1000000 1 s_.length) rfl rfl ?_; refine Zpc 4 rfl ?_; refine A.condB rfl h (fun _ h => ?_) (fun _ h => ?_)
  · refine Zcp 2 rfl ?_; refine Zo (.row 1000000 1 s_.length) rfl rfl ?_; refine Zo (.row 1000000 1 s_.length) rfl rfl ?_; refine Zpb 4 rfl ?_; cases h; cases hG; exact ⟨(Plain.map api_Debt_plain _), rfl⟩
  · refine Zcc 2 rfl ?_; refine A.join (fun (s23 : Unit) => [(0, .row 900000 1 s_.length)]) (fun s23 => [(900000, .rows 2 (List.map api_Debt.enc s_) false)]) _ h hG rfl ?_ ?_
    · intro J f h hG; refine Zac 6 rfl ?_; refine A.loop (fun (s24 : Int) => [(0, .row 900000 1 s_.length), (3, VI s24)]) (fun s24 => [(900000, .rows 2 (List.map api_Debt.enc s_) false)]) _ h hG (Zf [] [(900000, (1000000, 1))] rfl rfl (Ze rfl rfl (Ze rfl rfl trivial)) (Zc rfl rfl trivial)) ?_; intro J s24 f h hG; unfold slices_Compact_api_Debt_api_Debt_L2 at h; refine Zap 4 rfl ?_; refine Zo (.row 900000 1 s_.length) rfl rfl ?_; refine Zpc 4 rfl ?_; refine A.condB rfl h (fun _ h => ?_) (fun _ h => ?_)
      · refine Zcc 2 rfl ?_; refine A.join (fun (s42 : Unit) => [(0, .row 900000 1 s_.length), (3, VI s24)]) (fun s42 => [(900000, .rows 2 (List.map api_Debt.enc s_) false)]) _ h hG rfl ?_ ?_
        · intro J f h hG; refine Zac 2 rfl ?_; refine A.regionD (by kernel_rfl) ?_; refine Zo (.row 900000 1 s_.length) rfl rfl ?_; refine Zpp 1 rfl ?_; refine Y1 rfl ?_; refine chkK h fun g1002 h => ?_; refine W.chk rfl (by simpa using g1002) ?_; refine W.det (.rp 900000 1 s24.toNat 0) _ rfl ?_; refine Y1 rfl ?_; refine bindK h fun x1003 hx1003 h => ?_; refine W.elem rfl (elemG hx1003) ?_; refine W.det (.agg (api_Debt.av x1003)) _ rfl ?_; refine Zo (.row 900000 1 s_.length) rfl rfl ?_; refine Zpp 2 rfl ?_; refine Y1 rfl ?_; refine chkK h fun g1004 h => ?_; refine W.chk rfl (by simpa using g1004) ?_; refine W.det (.rp 900000 1 (IntKind.i64.wrap (s24 - (1 : Int))).toNat 0) _ rfl ?_; refine Y1 rfl ?_; refine bindK h fun x1005 hx1005 h => ?_; refine W.elem rfl (elemG hx1005) ?_; refine W.det (.agg (api_Debt.av x1005)) _ rfl ?_; refine Zpc 3 rfl ?_; refine A.condB rfl h (fun _ h => ?_) (fun _ h => ?_)
          · refine Zcp 2 rfl ?_; refine Zo (.row 900000 1 s_.length) rfl rfl ?_; refine Zpp 1 rfl ?_; refine Y1 rfl ?_; refine chkK h fun g1006 h => ?_; refine W.chk rfl (cutO_all g1006) ?_; refine W.det (.sub 900000 1 s24.toNat (((s_.length : Nat) : Int) - s24).toNat) _ rfl ?_; refine Zo (.sub 900000 1 s24.toNat (((s_.length : Nat) : Int) - s24).toNat) rfl rfl ?_; refine Zpc 2 rfl ?_; refine A.join (fun (s44 : Int × (List api_Debt)) => [(0, .row 900000 1 s44.2.length), (3, VI s44.1)]) (fun s44 => [(900000, .rows 2 (List.map api_Debt.enc s44.2) false)]) _ h hG rfl ?_ ?_
            · intro J f h hG; refine Zac 6 rfl ?_; refine A.loop (fun (s45 : Int × Int × (List api_Debt)) => [(0, .row 900000 1 s45.2.2.length), (3, VI s45.1), (4, .sub 900000 1 s24.toNat (((s_.length : Nat) : Int) - s24).toNat), (5, VI s45.2.1)]) (fun s45 => [(900000, .rows 2 (List.map api_Debt.enc s45.2.2) false)]) _ h hG (Zf [] [(900000, (900000, 1))] rfl rfl (Ze rfl rfl (Ze rfl rfl (Ze rfl rfl (Ze rfl rfl trivial)))) (Zc rfl rfl trivial)) ?_; intro J s45 f h hG; unfold slices_Compact_api_Debt_api_Debt_L1 at h; refine Zap 4 rfl ?_; refine Zo (.sub 900000 1 s24.toNat (((s_.length : Nat) : Int) - s24).toNat) rfl rfl ?_; refine Zpc 4 rfl ?_; refine A.condB rfl h (fun _ h => ?_) (fun _ h => ?_)
              · refine Zcc 5 rfl ?_; refine A.regionD (by kernel_rfl) ?_; refine Zo (.sub 900000 1 s24.toNat (((s_.length : Nat) : Int) - s24).toNat) rfl rfl ?_; refine Zpp 1 rfl ?_; refine Y1 rfl ?_; refine chkK h fun g1084 h => ?_; refine W.chk rfl (by simpa using g1084) ?_; refine W.det (.rp 900000 1 (s24.toNat + s45.2.1.toNat) 0) _ rfl ?_; refine Y1 rfl ?_; refine bindK h fun x1085 hx1085 h => ?_; refine W.elem rfl (elemG hx1085) ?_; refine W.det (.agg (api_Debt.av x1085)) _ rfl ?_; refine Zo (.sub 900000 1 s24.toNat (((s_.length : Nat) : Int) - s24).toNat) rfl rfl ?_; refine Zpp 2 rfl ?_; refine Y1 rfl ?_; refine chkK h fun g1086 h => ?_; refine W.chk rfl (by simpa using g1086) ?_; refine W.det (.rp 900000 1 (s24.toNat + (IntKind.i64.wrap (s45.2.1 - (1 : Int))).toNat) 0) _ rfl ?_; refine Y1 rfl ?_; refine bindK h fun x1087 hx1087 h => ?_; refine W.elem rfl (elemG hx1087) ?_; refine W.det (.agg (api_Debt.av x1087)) _ rfl ?_; refine Zpc 3 rfl ?_; refine A.condB rfl h (fun _ h => ?_) (fun _ h => ?_)
                · refine Zcp 2 rfl ?_; refine Zo (.row 900000 1 s45.2.2.length) rfl rfl ?_; refine Zpp 1 rfl ?_; refine Zo (.sub 900000 1 s24.toNat (((s_.length : Nat) : Int) - s24).toNat) rfl rfl ?_; refine Zpp 1 rfl ?_; refine Y1 rfl ?_; refine W.chk rfl (by simpa using g1084) ?_; refine W.det (.rp 900000 1 (s24.toNat + s45.2.1.toNat) 0) _ rfl ?_; refine Y1 rfl ?_; refine W.elem rfl (elemG hx1085) ?_; refine W.det (.agg (api_Debt.av x1085)) _ rfl ?_; refine Y1 rfl ?_; refine chkK h fun g1089 h => ?_; refine W.chk rfl (by simpa using g1089) ?_; refine W.det (.rp 900000 1 s45.1.toNat 0) _ rfl ?_; refine Y1 rfl ?_; refine bindK h fun x1090 hx1090 h => ?_; refine W.elem rfl (elemG hx1090) ?_; refine W.set x1085 rfl rfl ?_; refine Zpb 14 rfl ?_; cases h; exact Zh hG [] [(900000, (900000, 1))] rfl rfl (chkE.c rfl (by simp only [List.length_set]; rfl) (Ze rfl rfl (Ze rfl rfl (Ze rfl rfl trivial)))) (Zc rfl rfl trivial)
                · refine Zcb 8 rfl ?_; cases h; exact Zh hG [] [(900000, (900000, 1))] rfl rfl (Ze rfl rfl (Ze rfl rfl (Ze rfl rfl (Ze rfl rfl trivial)))) (Zc rfl rfl trivial)
              · refine Zcb 2 rfl ?_; refine headK.e ?_; refine Zob 1 rfl ?_; cases h; exact Zh hG [] [(900000, (900000, 1))] rfl rfl (Ze rfl rfl (Ze rfl rfl trivial)) (Zc rfl rfl trivial)
            · intro s44 r2 h hG; refine Zcp 2 rfl ?_; refine Zo (.row 900000 1 s44.2.length) rfl rfl ?_; refine Zpp 1 rfl ?_; refine Y1 rfl ?_; refine chkK h fun g1091 h => ?_; refine W.chk rfl (cutO_all g1091) ?_; refine W.det (.sub 900000 1 s44.1.toNat (((s44.2.length : Nat) : Int) - s44.1).toNat) _ rfl ?_; refine Y1 rfl ?_; refine W.to (v2 := (.tup [])) (m2 := (Mem.set _ 900000 1 (some (.rows 2 (List.map api_Debt.enc (List.take s44.1.toNat s44.2 ++ List.replicate (((s44.2.length : Nat) : Int) - s44.1).toNat (api_Debt.mk (0 : Int) (0 : Int)) ++ List.drop (s44.1.toNat + (((s44.2.length : Nat) : Int) - s44.1).toNat) s44.2)) false)))) rfl rfl (congrArg (fun q => Mem.set _ 900000 1 (some (Inst.rows 2 q false))) (clrMap api_Debt.enc (api_Debt.mk (0 : Int) (0 : Int)) s44.2 s44.1.toNat (((s44.2.length : Nat) : Int) - s44.1).toNat)) ?_; refine Zpp 4 rfl ?_; refine Zo (.row 900000 1 s44.2.length) rfl rfl ?_; refine Zpp 1 rfl ?_; refine Y1 rfl ?_; refine chkK h fun g1092 h => ?_; refine W.chk rfl (cutO_all g1092) ?_; refine W.det (.sub 900000 1 (0 : Int).toNat (s44.1 - (0 : Int)).toNat) _ rfl ?_; refine Zo (.sub 900000 1 (0 : Int).toNat (s44.1 - (0 : Int)).toNat) rfl rfl ?_; refine Zpb 4 rfl ?_; refine headK.r ?_; refine headK.r ?_; refine Zob 1 rfl ?_; refine headK.r ?_; cases h; cases hG
              exact ⟨(Plain.map api_Debt_plain _), _, rfl, by simp only [List.map_take]⟩
          · refine Zcb 2 rfl ?_; cases h; exact Zh hG [] [(900000, (900000, 1))] rfl rfl (Ze rfl rfl (Ze rfl rfl trivial)) (Zc rfl rfl trivial)
        · intro s42 r2 h hG; refine Zcb 5 rfl ?_; cases h; exact Zh hG [] [(900000, (900000, 1))] rfl rfl (Ze rfl rfl (Ze rfl rfl trivial)) (Zc rfl rfl trivial)
      · refine Zcb 2 rfl ?_; refine headK.e ?_; refine Zob 1 rfl ?_; cases h; exact Zh hG [] [(900000, (900000, 1))] rfl rfl (Ze rfl rfl trivial) (Zc rfl rfl trivial)
    · intro s23 r2 h hG; refine Zcp 2 rfl ?_; refine Zo (.row 900000 1 s_.length) rfl rfl ?_; refine Zo (.row 900000 1 s_.length) rfl rfl ?_; refine Zpb 3 rfl ?_; cases h; cases hG; exact ⟨(Plain.map api_Debt_plain _), rfl⟩
structure api_Order where
  Kind : Int
  Event : Int
  By : Int
  Step : Int
def api_Order.enc (x : api_Order) : List D := [.v (.int .i64 x.Kind), .v (.int .i64 x.Event), .v (.int .i64 x.By), .v (.int .i64 x.Step)]
abbrev api_Order.av (x : api_Order) : List AV := [VI x.Kind, VI x.Event, VI x.By, VI x.Step]
noncomputable def debt_Open_L1 (y288 : (List Int)) (done_ : (List api_Debt)) (x287 : api_Order) (s21 : Int × (List api_Debt)) : Option ((Int × (List api_Debt)) ⊕ (((List api_Debt)) ⊕ ((Int × (List api_Debt)) ⊕ (((List api_Debt)) ⊕ ((List api_Debt)))))) :=
  (bif (decide (s21.1 < ((y288.length : Nat) : Int))) then
    (chkO (decide (0 ≤ s21.1) && decide (s21.1 < ((y288.length : Nat) : Int)))).bind fun _ =>
    (getI y288 s21.1).bind fun x310 =>
    (slices_Contains_api_Debt_api_Debt done_ (api_Debt.mk x287.Event x310)).bind fun y311 =>
    (bif (!y311) then
      (chkO (decide (s21.2.length + [(api_Debt.mk x287.Event x310)].length ≤ 1000000))).bind fun _ =>
      some (.inl ((IntKind.i64.wrap (s21.1 + (1 : Int))), (s21.2 ++ [(api_Debt.mk x287.Event x310)])))
    else
      some (.inl ((IntKind.i64.wrap (s21.1 + (1 : Int))), s21.2)))
  else
    some (.inr (.inl s21.2)))
noncomputable def debt_Open_L2 (orders_ : (List api_Order)) (events_ : (List api_Event)) (sent_ : (List api_Sent)) (done_ : (List api_Debt)) (s12 : Int × (List api_Debt)) : Option ((Int × (List api_Debt)) ⊕ (((List api_Debt)) ⊕ ((List api_Debt)))) :=
  (bif (decide (s12.1 < (orders_.length : Int))) then
    (seqF (A := (List api_Debt)) (
      (getI orders_ s12.1).bind fun x287 =>
      (debt_Asked events_ sent_ x287.Event x287.Step).bind fun y288 =>
      loopF (debt_Open_L1 y288 done_ x287) ((0 : Int), s12.2))
    fun s20 =>
      some (.inl ((IntKind.i64.wrap (s12.1 + (1 : Int))), s20)))
  else
    some (.inr (.inl s12.2)))
noncomputable def debt_Open (events_ : (List api_Event)) (sent_ : (List api_Sent)) (orders_ : (List api_Order)) (done_ : (List api_Debt)) : Option ((List api_Debt)) :=
  (seqF (A := (List api_Debt)) (
    loopF (debt_Open_L2 orders_ events_ sent_ done_) ((0 : Int), ([] : List api_Debt)))
  fun s11 =>
    (sortF debt_compare s11).bind fun y313 =>
    (slices_Compact_api_Debt_api_Debt y313).bind fun y314 =>
    some y314)
theorem debt_Open_fn {events_ : (List api_Event)} {sent_ : (List api_Sent)} {orders_ : (List api_Order)} {done_ : (List api_Debt)} {r : (List api_Debt)} (h : debt_Open events_ sent_ orders_ done_ = some r) : Fn False Try.prog 17 [VF (List.map api_Event.enc events_), VF (List.map api_Sent.enc sent_), VF (List.map api_Order.enc orders_), VF (List.map api_Debt.enc done_)] (.ow 2 (List.map api_Debt.enc r)) := by
  refine Fn.of_AW (dr := False) (F := FnX False Try.prog) (base := 0) (js := [12, 13]) mixed tok noeqs (fun _ _ _ h => h) Try.call17 Try.func17 rfl Try.ntmps17 (by rw [Try.results17]) (by simp) ?_; have hG : (fun x => x = r) r := rfl; unfold debt_Open at h; refine Zap 2 rfl ?_; refine Zm (.row 8 1 0) (Mem.add _ 8 (.rows 2 (List.map api_Debt.enc ([] : List api_Debt)) false)) rfl rfl ?_; refine Zpp 4 rfl ?_; refine Zm (.row 9 1 0) (Mem.add _ 9 (.rows 2 (List.map api_Debt.enc ([] : List api_Debt)) false)) rfl rfl ?_; refine Zpc 2 rfl ?_; refine A.join (fun (s11 : (List api_Debt)) => [(9, .row 900000 1 s11.length)]) (fun s11 => [(900000, .rows 2 (List.map api_Debt.enc s11) false)]) _ h hG rfl ?_ ?_
  · intro J f h hG; refine Zap 3 rfl ?_; refine Y1 rfl ?_; refine W.len rfl ?_; refine Zpc 4 rfl ?_; refine A.loop (fun (s12 : Int × (List api_Debt)) => [(0, VF (List.map api_Event.enc events_)), (1, VF (List.map api_Sent.enc sent_)), (3, VF (List.map api_Debt.enc done_)), (9, .row 900000 1 s12.2.length), (15, VF (List.map api_Order.enc orders_)), (16, VI (orders_.length : Int)), (17, VI s12.1)]) (fun s12 => [(900000, .rows 2 (List.map api_Debt.enc s12.2) false)]) _ h hG (Zf [] [(900000, (9, 1))] rfl rfl (Ze rfl rfl (Ze rfl rfl (Ze rfl rfl (Ze rfl rfl (Ze rfl rfl (Ze rfl rfl (Ze rfl rfl trivial))))))) (Zc rfl rfl trivial)) ?_; intro J s12 f h hG; unfold debt_Open_L2 at h; refine Zac 6 rfl ?_; refine A.condB rfl h (fun _ h => ?_) (fun _ h => ?_)
    · refine Zcc 2 rfl ?_; refine A.join (fun (s20 : (List api_Debt)) => [(0, VF (List.map api_Event.enc events_)), (1, VF (List.map api_Sent.enc sent_)), (3, VF (List.map api_Debt.enc done_)), (9, .row 900000 1 s20.length), (15, VF (List.map api_Order.enc orders_)), (16, VI (orders_.length : Int)), (17, VI s12.1)]) (fun s20 => [(900000, .rows 2 (List.map api_Debt.enc s20) false)]) _ h hG rfl ?_ ?_
      · intro J f h hG; refine Zap 3 rfl ?_; refine Y1 rfl ?_; refine bindK h fun x287 hx287 h => ?_; refine W.chk rfl (elemB hx287) ?_; refine W.elem rfl (elemG hx287) ?_; refine W.chk rfl rfl ?_; refine W.det (.fp [.v (.int .i64 x287.Kind), .v (.int .i64 x287.Event), .v (.int .i64 x287.By), .v (.int .i64 x287.Step)]) _ rfl ?_; refine Zo (.agg (api_Order.av x287)) rfl rfl ?_; refine Zm (.lp 11 2 0) (Mem.add _ 11 (.box [VI 0, VI 0, VI 0, VI 0])) rfl rfl ?_; refine Zm (.tup []) (Mem.set _ 11 2 (some (.box (api_Order.av x287)))) rfl rfl ?_; refine Zpp 10 rfl ?_; refine Y1 rfl ?_; refine bindK h fun y288 hy288 h => ?_; refine W.call rfl (debt_Asked_fn hy288) ?_; refine W.v (.row 27 2 (List.map (encI .i64) y288).length) (.row 27 2 y288.length) (Mem.add _ 27 (.rows 1 (List.map (encI .i64) y288) false)) rfl (by simp only [List.length_map]) ?_; refine Zpc 5 rfl ?_; refine A.loop (fun (s21 : Int × (List api_Debt)) => [(0, VF (List.map api_Event.enc events_)), (1, VF (List.map api_Sent.enc sent_)), (3, VF (List.map api_Debt.enc done_)), (9, .row 900000 1 s21.2.length), (11, .lp 900001 1 0), (15, VF (List.map api_Order.enc orders_)), (16, VI (orders_.length : Int)), (17, VI s12.1), (27, .row 900002 1 y288.length), (28, VI ((y288.length : Nat) : Int)), (29, VI s21.1)]) (fun s21 => [(900000, .rows 2 (List.map api_Debt.enc s21.2) false), (900001, .box (api_Order.av x287)), (900002, .rows 1 (List.map (encI .i64) y288) false)]) _ h hG (Zf [] [(900000, (900000, 1)), (900001, (11, 2)), (900002, (27, 2))] rfl rfl (Ze rfl rfl (Ze rfl rfl (Ze rfl rfl (Ze rfl rfl (Ze rfl rfl (Ze rfl rfl (Ze rfl rfl (Ze rfl rfl (Ze rfl rfl (Ze rfl rfl (Ze rfl rfl trivial))))))))))) (Zc rfl rfl (Zc rfl rfl (Zc rfl rfl trivial)))) ?_; intro J s21 f h hG; unfold debt_Open_L1 at h; refine Zac 6 rfl ?_; refine A.condB rfl h (fun _ h => ?_) (fun _ h => ?_)
        · refine Zcp 6 rfl ?_; refine Y1 rfl ?_; refine chkK h fun g309 h => ?_; refine W.chk rfl (by simpa using g309) ?_; refine W.det (.rp 900002 1 s21.1.toNat 0) _ rfl ?_; refine Y1 rfl ?_; refine bindK h fun x310 hx310 h => ?_; refine W.elem rfl (elemG hx310) ?_; refine Zwp 9 rfl ?_; refine Zo (.agg [VI x287.Event, VI x310]) rfl rfl ?_; refine Zm (.lp 14 2 0) (Mem.add _ 14 (.box [VI 0, VI 0])) rfl rfl ?_; refine Zm (.tup []) (Mem.set _ 14 2 (some (.box [VI x287.Event, VI x310]))) rfl rfl ?_; refine Zpp 5 rfl ?_; refine Zo (.agg [VI x287.Event, VI x310]) rfl rfl ?_; refine Y1 rfl ?_; refine bindK h fun y311 hy311 h => ?_; refine W.call rfl (slices_Contains_api_Debt_api_Debt_fn hy311) ?_; refine Zwc 4 rfl ?_; refine A.condB rfl h (fun _ h => ?_) (fun _ h => ?_)
          · refine Zcp 1 rfl ?_; refine Zo (.row 900000 1 s21.2.length) rfl rfl ?_; refine Zo (.agg [VI x287.Event, VI x310]) rfl rfl ?_; refine Zm (.row 43 2 1) (Mem.add _ 43 (.rows 2 (List.map api_Debt.enc [(api_Debt.mk x287.Event x310)]) false)) rfl rfl ?_; refine Y1 rfl ?_; refine chkK h fun g312 h => ?_; refine W.chk rfl (appChk (fun _ => rfl) g312) ?_; refine W.app rfl rfl ?_; refine Zo (.row 900000 2 (s21.2 ++ [(api_Debt.mk x287.Event x310)]).length) rfl rfl ?_; refine Zpb 7 rfl ?_; cases h; exact Zh hG [] [(900000, (900000, 2)), (900001, (900001, 1)), (900002, (900002, 1))] rfl rfl (Ze rfl rfl (Ze rfl rfl (Ze rfl rfl (Ze rfl rfl (Ze rfl rfl (Ze rfl rfl (Ze rfl rfl (Ze rfl rfl (Ze rfl rfl (Ze rfl rfl (Ze rfl rfl trivial))))))))))) (Zc rfl rfl (Zc rfl rfl (Zc rfl rfl trivial)))
          · refine Zcb 7 rfl ?_; cases h; exact Zh hG [] [(900000, (900000, 1)), (900001, (900001, 1)), (900002, (900002, 1))] rfl rfl (Ze rfl rfl (Ze rfl rfl (Ze rfl rfl (Ze rfl rfl (Ze rfl rfl (Ze rfl rfl (Ze rfl rfl (Ze rfl rfl (Ze rfl rfl (Ze rfl rfl (Ze rfl rfl trivial))))))))))) (Zc rfl rfl (Zc rfl rfl (Zc rfl rfl trivial)))
        · refine Zcb 2 rfl ?_; refine headK.e ?_; refine Zob 2 rfl ?_; cases h; exact Zh hG [] [(900000, (900000, 1))] rfl rfl (Ze rfl rfl (Ze rfl rfl (Ze rfl rfl (Ze rfl rfl (Ze rfl rfl (Ze rfl rfl (Ze rfl rfl trivial))))))) (Zc rfl rfl trivial)
      · intro s20 r2 h hG; refine Zcb 4 rfl ?_; cases h; exact Zh hG [] [(900000, (900000, 1))] rfl rfl (Ze rfl rfl (Ze rfl rfl (Ze rfl rfl (Ze rfl rfl (Ze rfl rfl (Ze rfl rfl (Ze rfl rfl trivial))))))) (Zc rfl rfl trivial)
    · refine Zcb 2 rfl ?_; refine headK.e ?_; refine Zob 1 rfl ?_; cases h; exact Zh hG [] [(900000, (900000, 1))] rfl rfl (Ze rfl rfl trivial) (Zc rfl rfl trivial)
  · intro s11 r2 h hG; refine Zcp 2 rfl ?_; refine Zo (.row 900000 1 s11.length) rfl rfl ?_; refine Y1 rfl ?_; refine bindK h fun y313 hy313 h => ?_; refine W.call rfl (slices_SortFunc_api_Debt_api_Debt_fn (cF := 24) (cC := []) rfl (fun _ _ _ h => debt_compare_fn h) hy313) ?_; refine W.chk rfl (by simp only [List.length_map]; exact sortF_len hy313) ?_; refine W.det (.tup []) (Mem.set _ 900000 1 (some (.rows 2 (List.map api_Debt.enc y313) false))) rfl ?_; refine Zpp 4 rfl ?_; refine Zo (.row 900000 1 s11.length) rfl rfl ?_; refine Y1 rfl ?_; refine bindK h fun y314 hy314 h => ?_; refine W.call rfl (slices_Compact_api_Debt_api_Debt_fn hy314) ?_; refine W.rows (List.map api_Debt.enc y314).length y314.length ((List.map api_Debt.enc y314) ++ []) (List.map api_Debt.enc y314) rfl (by first | rfl | (simp; done) | simp only [partMap, List.length_map, List.length_append, List.nil_append, Nat.zero_add, List.length_nil]) (by first | rfl | (simp; done) | simp only [partMap, List.map_append, List.nil_append, List.map_nil]) ?_; refine Zo (.row 900000 2 y314.length) rfl rfl ?_; refine Zpb 3 rfl ?_; cases h; cases hG; exact ⟨rfl, rfl, trivial⟩
noncomputable def debt_right_L1 (l_ : (List api_Debt)) (s3 : Int) : Option ((Int) ⊕ ((Unit) ⊕ (Bool))) :=
  (bif (decide (s3 < (l_.length : Int))) then
    (getI l_ s3).bind fun x78 =>
    (bif (decide (x78.Event < (0 : Int))) then
      some (.inr (.inr false))
    else
      (bif (decide ((100000 : Int) ≤ x78.Event)) then
        some (.inr (.inr false))
      else
        (debt_network x78.Net).bind fun y82 =>
        (bif (!y82) then
          some (.inr (.inr false))
        else
          (bif (decide ((0 : Int) < s3)) then
            (getI l_ (IntKind.i64.wrap (s3 - (1 : Int)))).bind fun x83 =>
            (debt_compare x83 x78).bind fun y84 =>
            (bif (decide ((0 : Int) ≤ y84)) then
              some (.inr (.inr false))
            else
              some (.inl (IntKind.i64.wrap (s3 + (1 : Int)))))
          else
            some (.inl (IntKind.i64.wrap (s3 + (1 : Int))))))))
  else
    some (.inr (.inl ())))
noncomputable def debt_right (l_ : (List api_Debt)) (d_ : api_Debt) : Option (Bool) :=
  (seqF (A := Unit) (
    loopF (debt_right_L1 l_) (0 : Int))
  fun s2 =>
    (bif (decide ((0 : Int) ≤ d_.Event)) then
      (bif (decide (d_.Event < (100000 : Int))) then
        (debt_network d_.Net).bind fun y85 =>
        some y85
      else
        some false)
    else
      some false))
theorem debt_right_fn {dr : Prop} {l_ : (List api_Debt)} {d_ : api_Debt} {r : Bool} (h : debt_right l_ d_ = some r) : Fn dr Try.prog 22 [VF (List.map api_Debt.enc l_), .agg (api_Debt.av d_)] (VB r) := by
  refine Fn.of_AW (dr := dr) (F := FnX dr Try.prog) (base := 0) (js := [7]) mixed tok noeqs (fun _ _ _ h => h) Try.call22 Try.func22 rfl Try.ntmps22 (by rw [Try.results22]) (by simp) ?_; have hG : (fun x => x = r) r := rfl; unfold debt_right at h; refine Zap 2 rfl ?_; refine Zm (.lp 3 1 0) (Mem.add _ 3 (.box (api_Debt.av d_))) rfl rfl ?_; refine Zpc 3 rfl ?_; refine A.join (fun (s2 : Unit) => [(3, .lp 900000 1 0)]) (fun s2 => [(900000, .box (api_Debt.av d_))]) _ h hG rfl ?_ ?_
  · intro J f h hG; refine Zap 3 rfl ?_; refine Y1 rfl ?_; refine W.len rfl ?_; refine Zpc 4 rfl ?_; refine A.loop (fun (s3 : Int) => [(0, VF (List.map api_Debt.enc l_)), (3, .lp 900000 1 0), (7, VF (List.map api_Debt.enc l_)), (8, VI (l_.length : Int)), (9, VI s3)]) (fun s3 => [(900000, .box (api_Debt.av d_))]) _ h hG (Zf [] [(900000, (3, 1))] rfl rfl (Ze rfl rfl (Ze rfl rfl (Ze rfl rfl (Ze rfl rfl (Ze rfl rfl trivial))))) (Zc rfl rfl trivial)) ?_; intro J s3 f h hG; unfold debt_right_L1 at h; refine Zac 6 rfl ?_; refine A.condB rfl h (fun _ h => ?_) (fun _ h => ?_)
    · refine Zcp 7 rfl ?_; refine Y1 rfl ?_; refine bindK h fun x78 hx78 h => ?_; refine W.chk rfl (elemB hx78) ?_; refine W.elem rfl (elemG hx78) ?_; refine W.chk rfl rfl ?_; refine W.det (.fp [.v (.int .i64 x78.Event), .v (.int .i64 x78.Net)]) _ rfl ?_; refine Zo (.agg (api_Debt.av x78)) rfl rfl ?_; refine Zm (.lp 6 2 0) (Mem.add _ 6 (.box [VI 0, VI 0])) rfl rfl ?_; refine Zpp 1 rfl ?_; refine Zm (.tup []) (Mem.set _ 6 2 (some (.box (api_Debt.av x78)))) rfl rfl ?_; refine Zpc 3 rfl ?_; refine A.regionD (by kernel_rfl) ?_; refine Zpp 4 rfl ?_; refine YF rfl rfl rfl h (fun _ h => ?_) (fun _ h => ?_)
      · refine Zpb 34 rfl ?_; refine headK.r ?_; refine Zob 1 rfl ?_; refine headK.r ?_; cases h; cases hG; exact ⟨rfl, trivial⟩
      · refine Zwp 5 rfl ?_; refine YF rfl rfl rfl h (fun _ h => ?_) (fun _ h => ?_)
        · refine Zpb 29 rfl ?_; refine headK.r ?_; refine Zob 1 rfl ?_; refine headK.r ?_; cases h; cases hG; exact ⟨rfl, trivial⟩
        · refine Zwp 2 rfl ?_; refine Y2 rfl rfl rfl ?_; refine bindK h fun y82 hy82 h => ?_; refine W.call rfl (debt_network_fn hy82) ?_; refine Zwp 4 rfl ?_; refine YF rfl rfl rfl h (fun _ h => ?_) (fun _ h => ?_)
          · refine Zpb 23 rfl ?_; refine headK.r ?_; refine Zob 1 rfl ?_; refine headK.r ?_; cases h; cases hG; exact ⟨rfl, trivial⟩
          · refine Zwp 3 rfl ?_; refine YT rfl rfl rfl h (fun _ h => ?_) (fun _ h => ?_)
            · refine Zwp 3 rfl ?_; refine Y2 rfl rfl rfl ?_; refine bindK h fun x83 hx83 h => ?_; refine W.chk rfl (elemB hx83) ?_; refine W.elem rfl (elemG hx83) ?_; refine W.chk rfl rfl ?_; refine W.det (.fp [.v (.int .i64 x83.Event), .v (.int .i64 x83.Net)]) _ rfl ?_; refine Zu (.agg (api_Debt.av x83)) rfl rfl rfl rfl ?_; refine Zu (.agg (api_Debt.av x78)) rfl rfl rfl rfl ?_; refine Y2 rfl rfl rfl ?_; refine bindK h fun y84 hy84 h => ?_; refine W.call rfl (debt_compare_fn hy84) ?_; refine Zwc 6 rfl ?_; refine A.condB rfl h (fun _ h => ?_) (fun _ h => ?_)
              · refine Zcb 8 rfl ?_; refine headK.r ?_; refine Zob 1 rfl ?_; refine headK.r ?_; cases h; cases hG; exact ⟨rfl, trivial⟩
              · refine Zcb 7 rfl ?_; cases h; exact Zh hG [] [(900000, (900000, 1))] rfl rfl (Ze rfl rfl (Ze rfl rfl (Ze rfl rfl (Ze rfl rfl (Ze rfl rfl trivial))))) (Zc rfl rfl trivial)
            · refine Zpb 19 rfl ?_; cases h; exact Zh hG [] [(900000, (900000, 1))] rfl rfl (Ze rfl rfl (Ze rfl rfl (Ze rfl rfl (Ze rfl rfl (Ze rfl rfl trivial))))) (Zc rfl rfl trivial)
    · refine Zcb 2 rfl ?_; refine headK.e ?_; refine Zob 1 rfl ?_; cases h; exact Zh hG [] [(900000, (900000, 1))] rfl rfl (Ze rfl rfl trivial) (Zc rfl rfl trivial)
  · intro s2 r2 h hG; refine Zcp 6 rfl ?_; refine YT rfl rfl rfl h (fun _ h => ?_) (fun _ h => ?_)
    · refine Zwp 5 rfl ?_; refine YT rfl rfl rfl h (fun _ h => ?_) (fun _ h => ?_)
      · refine Zwp 2 rfl ?_; refine Y2 rfl rfl rfl ?_; refine bindK h fun y85 hy85 h => ?_; refine W.call rfl (debt_network_fn hy85) ?_; refine Zwb 6 rfl ?_; cases h; cases hG; exact ⟨rfl, trivial⟩
      · refine Zpb 7 rfl ?_; cases h; cases hG; exact ⟨rfl, trivial⟩
    · refine Zpb 12 rfl ?_; cases h; cases hG; exact ⟨rfl, trivial⟩
noncomputable def slices_BinarySearchFunc_api_Debt_api_Debt_api_Debt_L1 (x_ : (List api_Debt)) (cmp_ : (api_Debt → api_Debt → Option (Int))) (target_ : api_Debt) (s3 : Int × Int) : Option ((Int × Int) ⊕ ((Int) ⊕ (Int × Bool))) :=
  (bif (decide (s3.1 < s3.2)) then
    (getI x_ (IntKind.i64.wrap (Int.fdiv (IntKind.u64.wrap (IntKind.i64.wrap (s3.1 + s3.2))) (2 ^ (min (1 : Int).toNat (IntKind.bits .u64)))))).bind fun x11 =>
    (cmp_ x11 target_).bind fun y12 =>
    (bif (decide (y12 < (0 : Int))) then
      some (.inl ((IntKind.i64.wrap ((IntKind.i64.wrap (Int.fdiv (IntKind.u64.wrap (IntKind.i64.wrap (s3.1 + s3.2))) (2 ^ (min (1 : Int).toNat (IntKind.bits .u64))))) + (1 : Int))), s3.2))
    else
      some (.inl (s3.1, (IntKind.i64.wrap (Int.fdiv (IntKind.u64.wrap (IntKind.i64.wrap (s3.1 + s3.2))) (2 ^ (min (1 : Int).toNat (IntKind.bits .u64))))))))
  else
    some (.inr (.inl s3.1)))
noncomputable def slices_BinarySearchFunc_api_Debt_api_Debt_api_Debt (x_ : (List api_Debt)) (target_ : api_Debt) (cmp_ : (api_Debt → api_Debt → Option (Int))) : Option (Int × Bool) :=
  (seqF (A := Int) (
    loopF (slices_BinarySearchFunc_api_Debt_api_Debt_api_Debt_L1 x_ cmp_ target_) ((0 : Int), (x_.length : Int)))
  fun s2 =>
    (bif (decide (s2 < (x_.length : Int))) then
      (getI x_ s2).bind fun x13 =>
      (cmp_ x13 target_).bind fun y14 =>
      some (s2, (y14 == (0 : Int)))
    else
      some (s2, false)))
theorem slices_BinarySearchFunc_api_Debt_api_Debt_api_Debt_fn {dr : Prop} {x_ : (List api_Debt)} {target_ : api_Debt} {cmp_ : (api_Debt → api_Debt → Option (Int))} {cmp_F : FuncId} {cmp_C : List AV} (cmp_H : cmp_C.all capd = true) (cmp_P : ∀ (q0 : api_Debt) (q1 : api_Debt) (z : Int), cmp_ q0 q1 = some z → Fn dr Try.prog cmp_F ([.agg (api_Debt.av q0), .agg (api_Debt.av q1)] ++ cmp_C) (VI z)) {r : Int × Bool} (h : slices_BinarySearchFunc_api_Debt_api_Debt_api_Debt x_ target_ cmp_ = some r) : Fn dr Try.prog 23 [VF (List.map api_Debt.enc x_), .agg (api_Debt.av target_), .fn cmp_F cmp_C] (.tup [VI r.1, VB r.2]) := by
  refine Fn.of_AW (dr := dr) (F := FnX dr Try.prog) (base := 0) (js := [8]) mixed tok noeqs (fun _ _ _ h => h) Try.call23 Try.func23 rfl Try.ntmps23 (by rw [Try.results23]) (by simp) ?_; have hG : (fun x => x = r) r := rfl; unfold slices_BinarySearchFunc_api_Debt_api_Debt_api_Debt at h; refine Zap 2 rfl ?_; refine Zm (.lp 4 1 0) (Mem.add _ 4 (.box (api_Debt.av target_))) rfl rfl ?_; refine Zpp 7 rfl ?_; refine Y1 rfl ?_; refine W.len rfl ?_; refine Zpc 10 rfl ?_; refine A.join (fun (s2 : Int) => [(0, VF (List.map api_Debt.enc x_)), (2, .fn cmp_F cmp_C), (4, .lp 900000 1 0), (8, VI (x_.length : Int)), (9, VI s2)]) (fun s2 => [(900000, .box (api_Debt.av target_))]) _ h hG rfl ?_ ?_
  · intro J f h hG; refine Zac 1 rfl ?_; refine A.loop (fun (s3 : Int × Int) => [(0, VF (List.map api_Debt.enc x_)), (2, .fn cmp_F cmp_C), (4, .lp 900000 1 0), (8, VI (x_.length : Int)), (9, VI s3.1), (10, VI s3.2)]) (fun s3 => [(900000, .box (api_Debt.av target_))]) _ h hG (Zf [] [(900000, (4, 1))] rfl rfl (Ze rfl rfl (chkE.g cmp_H rfl (Ze rfl rfl (Ze rfl rfl (Ze rfl rfl (Ze rfl rfl trivial)))))) (Zc rfl rfl trivial)) ?_; intro J s3 f h hG; unfold slices_BinarySearchFunc_api_Debt_api_Debt_api_Debt_L1 at h; refine Zac 8 rfl ?_; refine A.condB rfl h (fun _ h => ?_) (fun _ h => ?_)
    · refine Zcp 9 rfl ?_; refine Y1 rfl ?_; refine W.chk rfl (by decide) ?_; refine Zwc 6 rfl ?_; refine A.regionD (by kernel_rfl) ?_; refine Zo (.fn cmp_F cmp_C) rfl rfl ?_; refine Zpp 2 rfl ?_; refine Y1 rfl ?_; refine bindK h fun x11 hx11 h => ?_; refine W.chk rfl (elemB hx11) ?_; refine W.elem rfl (elemG hx11) ?_; refine W.chk rfl rfl ?_; refine W.det (.fp [.v (.int .i64 x11.Event), .v (.int .i64 x11.Net)]) _ rfl ?_; refine Zo (.agg (api_Debt.av x11)) rfl rfl ?_; refine Zo (.agg (api_Debt.av target_)) rfl rfl ?_; refine Y1 rfl ?_; refine bindK h fun y12 hy12 h => ?_; refine callG rfl rfl rfl cmp_H ?_; refine W.call rfl (cmp_P _ _ _ hy12) ?_; refine Zwc 4 rfl ?_; refine A.condB rfl h (fun _ h => ?_) (fun _ h => ?_)
      · refine Zcb 6 rfl ?_; cases h; exact Zh hG [] [(900000, (900000, 1))] rfl rfl (Ze rfl rfl (chkE.g cmp_H rfl (Ze rfl rfl (Ze rfl rfl (Ze rfl rfl (Ze rfl rfl trivial)))))) (Zc rfl rfl trivial)
      · refine Zcb 5 rfl ?_; cases h; exact Zh hG [] [(900000, (900000, 1))] rfl rfl (Ze rfl rfl (chkE.g cmp_H rfl (Ze rfl rfl (Ze rfl rfl (Ze rfl rfl (Ze rfl rfl trivial)))))) (Zc rfl rfl trivial)
    · refine Zcb 2 rfl ?_; refine headK.e ?_; refine Zob 1 rfl ?_; cases h; exact Zh hG [] [(900000, (900000, 1))] rfl rfl (Ze rfl rfl (chkE.g cmp_H rfl (Ze rfl rfl (Ze rfl rfl (Ze rfl rfl trivial))))) (Zc rfl rfl trivial)
  · intro s2 r2 h hG; refine Zcc 1 rfl ?_; refine A.regionD (by kernel_rfl) ?_; refine Zpp 5 rfl ?_; refine YT rfl rfl rfl h (fun _ h => ?_) (fun _ h => ?_)
    · refine W.det (.fn cmp_F cmp_C) _ rfl ?_; refine Zpp 2 rfl ?_; refine Y2 rfl rfl rfl ?_; refine bindK h fun x13 hx13 h => ?_; refine W.chk rfl (elemB hx13) ?_; refine W.elem rfl (elemG hx13) ?_; refine W.chk rfl rfl ?_; refine W.det (.fp [.v (.int .i64 x13.Event), .v (.int .i64 x13.Net)]) _ rfl ?_; refine Zu (.agg (api_Debt.av x13)) rfl rfl rfl rfl ?_; refine Zu (.agg (api_Debt.av target_)) rfl rfl rfl rfl ?_; refine Y2 rfl rfl rfl ?_; refine bindK h fun y14 hy14 h => ?_; refine callG rfl rfl rfl cmp_H ?_; refine W.call rfl (cmp_P _ _ _ hy14) ?_; refine Zwb 8 rfl ?_; cases h; cases hG; exact ⟨rfl, rfl, trivial⟩
    · refine Zpb 13 rfl ?_; cases h; cases hG; exact ⟨rfl, rfl, trivial⟩
noncomputable def slices_Clone_api_Debt_api_Debt_a : Option ((List api_Debt)) :=
  some ([] : List api_Debt)
theorem slices_Clone_api_Debt_api_Debt_a_fn {dr : Prop} {r : (List api_Debt)} (h : slices_Clone_api_Debt_api_Debt_a = some r) : Fn dr Try.prog 26 [.d (.v (.slice none 0 0))] (.ow 2 (List.map api_Debt.enc r)) := by
  refine Fn.of_AW (dr := dr) (F := FnX dr Try.prog) (base := 0) (js := []) mixed tok noeqs (fun _ _ _ h => h) Try.call26 Try.func26 rfl Try.ntmps26 (by rw [Try.results26]) (by simp) ?_; have hG : (fun x => x = r) r := rfl; unfold slices_Clone_api_Debt_api_Debt_a at h; refine Zap 2 rfl ?_; refine Zm (.row 2 1 0) (Mem.add _ 2 (.rows 2 (List.map api_Debt.enc ([] : List api_Debt)) false)) rfl rfl ?_; refine Zpp 5 rfl ?_; refine Zo (.d (.v (.slice none 0 0))) rfl rfl ?_; refine Zpp 6 rfl ?_; refine Zm (.row 2 2 0) (Mem.add _ 2 (.rows 2 (List.map api_Debt.enc ([] : List api_Debt)) false)) rfl rfl ?_; refine Zpb 4 rfl ?_; cases h; cases hG; exact ⟨rfl, rfl, trivial⟩
noncomputable def slices_Clone_api_Debt_api_Debt_b (a_ : Addr) (c_ : Nat) : Option ((List api_Debt)) :=
  (chkO (decide (0 + ([] : List api_Debt).length ≤ 1000000))).bind fun _ =>
  some (([] : List api_Debt) ++ ([] : List api_Debt))
theorem slices_Clone_api_Debt_api_Debt_b_fn {dr : Prop} {a_ : Addr} {c_ : Nat} {r : (List api_Debt)} (h : slices_Clone_api_Debt_api_Debt_b a_ c_ = some r) : Fn dr Try.prog 26 [.d (.v (.slice (some a_) 0 c_))] (.ow 2 (List.map api_Debt.enc r)) := by
  refine Fn.of_AW (dr := dr) (F := FnX dr Try.prog) (base := 0) (js := []) mixed tok noeqs (fun _ _ _ h => h) Try.call26 Try.func26 rfl Try.ntmps26 (by rw [Try.results26]) (by simp) ?_; have hG : (fun x => x = r) r := rfl; unfold slices_Clone_api_Debt_api_Debt_b at h; refine Zap 2 rfl ?_; refine Zm (.row 2 1 0) (Mem.add _ 2 (.rows 2 (List.map api_Debt.enc ([] : List api_Debt)) false)) rfl rfl ?_; refine Zpp 5 rfl ?_; refine Zo (.d (.v (.slice (some a_) 0 c_))) rfl rfl ?_; refine Zpp 8 rfl ?_; refine Zm (.row 5 1 0) (Mem.add _ 5 (.rows 2 (List.map api_Debt.enc ([] : List api_Debt)) false)) rfl rfl ?_; refine Zo (.d (.v (.slice (some a_) 0 c_))) rfl rfl ?_; refine Y1 rfl ?_; refine chkK h fun g1 h => ?_; refine W.chk rfl ⟨fun _ hc => (by cases hc), of_decide_eq_true g1⟩ ?_; refine W.rows (0 + (List.map api_Debt.enc ([] : List api_Debt)).length) (([] : List api_Debt) ++ ([] : List api_Debt)).length ([] ++ (List.map api_Debt.enc ([] : List api_Debt))) (List.map api_Debt.enc (([] : List api_Debt) ++ ([] : List api_Debt))) rfl (by first | rfl | (simp; done) | simp only [partMap, List.length_map, List.length_append, List.nil_append, Nat.zero_add, List.length_nil]) (by first | rfl | (simp; done) | simp only [partMap, List.map_append, List.nil_append, List.map_nil]) ?_; refine Zo (.row 5 2 (([] : List api_Debt) ++ ([] : List api_Debt)).length) rfl rfl ?_; refine Zpb 3 rfl ?_; cases h; cases hG; exact ⟨rfl, rfl, trivial⟩
noncomputable def slices_Clone_api_Debt_api_Debt_c (x_ : api_Debt) (s_ : (List api_Debt)) : Option ((List api_Debt)) :=
  (chkO (decide (0 + (x_ :: s_).length ≤ 1000000))).bind fun _ =>
  some (([] : List api_Debt) ++ (x_ :: s_))
theorem slices_Clone_api_Debt_api_Debt_c_fn {dr : Prop} {x_ : api_Debt} {s_ : (List api_Debt)} {r : (List api_Debt)} (h : slices_Clone_api_Debt_api_Debt_c x_ s_ = some r) : Fn dr Try.prog 26 [VF (List.map api_Debt.enc (x_ :: s_))] (.ow 2 (List.map api_Debt.enc r)) := by
  refine Fn.of_AW (dr := dr) (F := FnX dr Try.prog) (base := 0) (js := []) mixed tok noeqs (fun _ _ _ h => h) Try.call26 Try.func26 rfl Try.ntmps26 (by rw [Try.results26]) (by simp) ?_; have hG : (fun x => x = r) r := rfl; unfold slices_Clone_api_Debt_api_Debt_c at h; refine Zap 2 rfl ?_; refine Zm (.row 2 1 0) (Mem.add _ 2 (.rows 2 (List.map api_Debt.enc ([] : List api_Debt)) false)) rfl rfl ?_; refine Zpp 14 rfl ?_; refine Zm (.row 5 1 0) (Mem.add _ 5 (.rows 2 (List.map api_Debt.enc ([] : List api_Debt)) false)) rfl rfl ?_; refine Zpp 1 rfl ?_; refine Y1 rfl ?_; refine chkK h fun g1 h => ?_; refine W.chk rfl (appChk (fun _ => rfl) g1) ?_; refine W.rows (0 + (List.map api_Debt.enc (x_ :: s_)).length) (([] : List api_Debt) ++ (x_ :: s_)).length ([] ++ (List.map api_Debt.enc (x_ :: s_))) (List.map api_Debt.enc (([] : List api_Debt) ++ (x_ :: s_))) rfl (by first | rfl | (simp; done) | simp only [partMap, List.length_map, List.length_append, List.nil_append, Nat.zero_add, List.length_nil]) (by first | rfl | (simp; done) | simp only [partMap, List.map_append, List.nil_append, List.map_nil]) ?_; refine Zo (.row 5 2 (([] : List api_Debt) ++ (x_ :: s_)).length) rfl rfl ?_; refine Zpb 3 rfl ?_; cases h; cases hG; exact ⟨rfl, rfl, trivial⟩
noncomputable def slices_Clone_api_Debt_api_Debt (s_ : List api_Debt) : Option (List api_Debt) := (chkO (decide (s_.length ≤ 1000000))).bind fun _ => some s_
theorem slices_Clone_api_Debt_api_Debt_fn {dr : Prop} {s_ r : List api_Debt} (h : slices_Clone_api_Debt_api_Debt s_ = some r) : Fn dr Try.prog 26 [VF (List.map api_Debt.enc s_)] (.ow 2 (List.map api_Debt.enc r)) := by
  have e : s_ = r := cloneE h
  subst e
  cases s_ with
  | nil => exact Fn.slice0 (slices_Clone_api_Debt_api_Debt_a_fn rfl) fun a c => slices_Clone_api_Debt_api_Debt_b_fn (a_ := a) (c_ := c) rfl
  | cons x s =>
    refine slices_Clone_api_Debt_api_Debt_c_fn ?_; unfold slices_Clone_api_Debt_api_Debt at h; unfold slices_Clone_api_Debt_api_Debt_c
    simpa only [List.nil_append, Nat.zero_add] using h
theorem slices_Insert_api_Debt_api_Debt_fn {s vs r : List api_Debt} {i : Int} (h : insP s i vs = some r) : FnW False Try.prog 25 2 (List.map api_Debt.enc s) [VI i, VF (List.map api_Debt.enc vs)] (.tup [.ow 2 (List.map api_Debt.enc r)]) :=
  insert_fnw api_Debt.enc (fun x => (x.Event, x.Net)) (fun _ => rfl) h
noncomputable def debt_Add (l_ : (List api_Debt)) (d_ : api_Debt) : Option ((List api_Debt) × Int) :=
  (debt_right l_ d_).bind fun y2 =>
  (bif (!y2) then
    some (([] : List api_Debt), (1 : Int))
  else
    (slices_BinarySearchFunc_api_Debt_api_Debt_api_Debt l_ d_ debt_compare).bind fun y3 =>
    (bif y3.2 then
      some (([] : List api_Debt), (5 : Int))
    else
      (slices_Clone_api_Debt_api_Debt l_).bind fun y4 =>
      (insP y4 y3.1 [d_]).bind fun y5 =>
      some (y5, (0 : Int))))
theorem debt_Add_fn {l_ : (List api_Debt)} {d_ : api_Debt} {r : (List api_Debt) × Int} (h : debt_Add l_ d_ = some r) : Fn False Try.prog 9 [VF (List.map api_Debt.enc l_), .agg (api_Debt.av d_)] (.tup [.ow 2 (List.map api_Debt.enc r.1), VI r.2]) := by
  refine Fn.of_AW (dr := False) (F := FnX False Try.prog) (base := 0) (js := []) mixed tok noeqs (fun _ _ _ h => h) Try.call9 Try.func9 rfl Try.ntmps9 (by rw [Try.results9]) (by simp) ?_; have hG : (fun x => x = r) r := rfl; unfold debt_Add at h; refine Zap 2 rfl ?_; refine Zm (.lp 3 1 0) (Mem.add _ 3 (.box (api_Debt.av d_))) rfl rfl ?_; refine Zm (.row 4 1 0) (Mem.add _ 4 (.rows 2 (List.map api_Debt.enc ([] : List api_Debt)) false)) rfl rfl ?_; refine Zpp 7 rfl ?_; refine Zo (.agg (api_Debt.av d_)) rfl rfl ?_; refine Y1 rfl ?_; refine bindK h fun y2 hy2 h => ?_; refine W.call rfl (debt_right_fn hy2) ?_; refine Zwc 4 rfl ?_; refine A.condB rfl h (fun _ h => ?_) (fun _ h => ?_)
  · refine Zcp 2 rfl ?_; refine Zm (.row 4 2 0) (Mem.add _ 4 (.rows 2 (List.map api_Debt.enc ([] : List api_Debt)) false)) rfl rfl ?_; refine Zpb 5 rfl ?_; cases h; cases hG; exact ⟨rfl, rfl, rfl, trivial⟩
  · refine Zcp 5 rfl ?_; refine Zo (.agg (api_Debt.av d_)) rfl rfl ?_; refine Y1 rfl ?_; refine bindK h fun y3 hy3 h => ?_; refine W.call rfl (slices_BinarySearchFunc_api_Debt_api_Debt_api_Debt_fn (cmp_F := 24) (cmp_C := []) rfl (fun _ _ _ h => debt_compare_fn h) hy3) ?_; refine W.det (.tup [VI y3.1, VB y3.2]) _ rfl ?_; refine Zo (.tup [VI y3.1, VB y3.2]) rfl rfl ?_; refine Zpc 12 rfl ?_; refine A.condB rfl h (fun _ h => ?_) (fun _ h => ?_)
    · refine Zcp 2 rfl ?_; refine Zm (.row 4 2 0) (Mem.add _ 4 (.rows 2 (List.map api_Debt.enc ([] : List api_Debt)) false)) rfl rfl ?_; refine Zpb 5 rfl ?_; cases h; cases hG; exact ⟨rfl, rfl, rfl, trivial⟩
    · refine Zcc 3 rfl ?_; refine A.regionD (by kernel_rfl) ?_; refine Zpp 1 rfl ?_; refine Y1 rfl ?_; refine bindK h fun y4 hy4 h => ?_; refine W.call rfl (slices_Clone_api_Debt_api_Debt_fn hy4) ?_; refine W.v (.row 20 1 (List.map api_Debt.enc y4).length) (.row 20 1 y4.length) (Mem.add _ 20 (.rows 2 (List.map api_Debt.enc y4) false)) rfl (by simp only [List.length_map]) ?_; refine Zpp 1 rfl ?_; refine Zo (.agg (api_Debt.av d_)) rfl rfl ?_; refine Zm (.row 23 1 1) (Mem.add _ 23 (.rows 2 (List.map api_Debt.enc [d_]) false)) rfl rfl ?_; refine Y1 rfl ?_; refine bindK h fun y5 hy5 h => ?_; refine W.call rfl (slices_Insert_api_Debt_api_Debt_fn hy5) ?_; refine W.rows (List.map api_Debt.enc y5).length y5.length ((List.map api_Debt.enc y5) ++ []) (List.map api_Debt.enc y5) rfl (by first | rfl | (simp; done) | simp only [partMap, List.length_map, List.length_append, List.nil_append, Nat.zero_add, List.length_nil]) (by first | rfl | (simp; done) | simp only [partMap, List.map_append, List.nil_append, List.map_nil]) ?_; refine Zo (.row 20 2 y5.length) rfl rfl ?_; refine Zpb 4 rfl ?_; cases h; cases hG; exact ⟨rfl, rfl, rfl, trivial⟩
theorem slices_Delete_api_Debt_api_Debt_fn {s r : List api_Debt} {i j : Int} (h : delP s i j = some r) : FnW False Try.prog 30 2 (List.map api_Debt.enc s) [VI i, VI j] (.tup [.ow 2 (List.map api_Debt.enc r)]) :=
  delete_fnw api_Debt.enc (fun x => (x.Event, x.Net)) (fun _ => rfl) h
noncomputable def debt_Confirm (l_ : (List api_Debt)) (d_ : api_Debt) : Option ((List api_Debt) × Int) :=
  (debt_right l_ d_).bind fun y2 =>
  (bif (!y2) then
    some (([] : List api_Debt), (1 : Int))
  else
    (slices_BinarySearchFunc_api_Debt_api_Debt_api_Debt l_ d_ debt_compare).bind fun y3 =>
    (bif (!y3.2) then
      some (([] : List api_Debt), (4 : Int))
    else
      (slices_Clone_api_Debt_api_Debt l_).bind fun y4 =>
      (delP y4 y3.1 (IntKind.i64.wrap (y3.1 + (1 : Int)))).bind fun y5 =>
      some (y5, (0 : Int))))
theorem debt_Confirm_fn {l_ : (List api_Debt)} {d_ : api_Debt} {r : (List api_Debt) × Int} (h : debt_Confirm l_ d_ = some r) : Fn False Try.prog 11 [VF (List.map api_Debt.enc l_), .agg (api_Debt.av d_)] (.tup [.ow 2 (List.map api_Debt.enc r.1), VI r.2]) := by
  refine Fn.of_AW (dr := False) (F := FnX False Try.prog) (base := 0) (js := []) mixed tok noeqs (fun _ _ _ h => h) Try.call11 Try.func11 rfl Try.ntmps11 (by rw [Try.results11]) (by simp) ?_; have hG : (fun x => x = r) r := rfl; unfold debt_Confirm at h; refine Zap 2 rfl ?_; refine Zm (.lp 3 1 0) (Mem.add _ 3 (.box (api_Debt.av d_))) rfl rfl ?_; refine Zm (.row 4 1 0) (Mem.add _ 4 (.rows 2 (List.map api_Debt.enc ([] : List api_Debt)) false)) rfl rfl ?_; refine Zpp 7 rfl ?_; refine Zo (.agg (api_Debt.av d_)) rfl rfl ?_; refine Y1 rfl ?_; refine bindK h fun y2 hy2 h => ?_; refine W.call rfl (debt_right_fn hy2) ?_; refine Zwc 4 rfl ?_; refine A.condB rfl h (fun _ h => ?_) (fun _ h => ?_)
  · refine Zcp 2 rfl ?_; refine Zm (.row 4 2 0) (Mem.add _ 4 (.rows 2 (List.map api_Debt.enc ([] : List api_Debt)) false)) rfl rfl ?_; refine Zpb 5 rfl ?_; cases h; cases hG; exact ⟨rfl, rfl, rfl, trivial⟩
  · refine Zcp 5 rfl ?_; refine Zo (.agg (api_Debt.av d_)) rfl rfl ?_; refine Y1 rfl ?_; refine bindK h fun y3 hy3 h => ?_; refine W.call rfl (slices_BinarySearchFunc_api_Debt_api_Debt_api_Debt_fn (cmp_F := 24) (cmp_C := []) rfl (fun _ _ _ h => debt_compare_fn h) hy3) ?_; refine W.det (.tup [VI y3.1, VB y3.2]) _ rfl ?_; refine Zo (.tup [VI y3.1, VB y3.2]) rfl rfl ?_; refine Zpc 13 rfl ?_; refine A.condB rfl h (fun _ h => ?_) (fun _ h => ?_)
    · refine Zcp 2 rfl ?_; refine Zm (.row 4 2 0) (Mem.add _ 4 (.rows 2 (List.map api_Debt.enc ([] : List api_Debt)) false)) rfl rfl ?_; refine Zpb 5 rfl ?_; cases h; cases hG; exact ⟨rfl, rfl, rfl, trivial⟩
    · refine Zcp 5 rfl ?_; refine Y1 rfl ?_; refine bindK h fun y4 hy4 h => ?_; refine W.call rfl (slices_Clone_api_Debt_api_Debt_fn hy4) ?_; refine W.v (.row 21 1 (List.map api_Debt.enc y4).length) (.row 21 1 y4.length) (Mem.add _ 21 (.rows 2 (List.map api_Debt.enc y4) false)) rfl (by simp only [List.length_map]) ?_; refine Zpp 3 rfl ?_; refine Y1 rfl ?_; refine bindK h fun y5 hy5 h => ?_; refine W.call rfl (slices_Delete_api_Debt_api_Debt_fn hy5) ?_; refine W.rows (List.map api_Debt.enc y5).length y5.length ((List.map api_Debt.enc y5) ++ []) (List.map api_Debt.enc y5) rfl (by first | rfl | (simp; done) | simp only [partMap, List.length_map, List.length_append, List.nil_append, Nat.zero_add, List.length_nil]) (by first | rfl | (simp; done) | simp only [partMap, List.map_append, List.nil_append, List.map_nil]) ?_; refine Zo (.row 21 2 y5.length) rfl rfl ?_; refine Zpb 4 rfl ?_; cases h; cases hG; exact ⟨rfl, rfl, rfl, trivial⟩
noncomputable def ref44_Same_L1 (a_ : (List api_Debt)) (b_ : (List api_Debt)) (s3 : Int) : Option ((Int) ⊕ ((Unit) ⊕ (Bool))) :=
  (bif (decide (s3 < (a_.length : Int))) then
    (getI a_ s3).bind fun x23 =>
    (getI b_ s3).bind fun x24 =>
    (bif (!((x23.Event == x24.Event) && ((x23.Net == x24.Net) && true))) then
      some (.inr (.inr false))
    else
      some (.inl (IntKind.i64.wrap (s3 + (1 : Int)))))
  else
    some (.inr (.inl ())))
noncomputable def ref44_Same (a_ : (List api_Debt)) (b_ : (List api_Debt)) : Option (Bool) :=
  (bif ((a_.length : Int) != (b_.length : Int)) then
    some false
  else
    (seqF (A := Unit) (
      loopF (ref44_Same_L1 a_ b_) (0 : Int))
    fun s2 =>
      some true))
theorem ref44_Same_fn {dr : Prop} {a_ : (List api_Debt)} {b_ : (List api_Debt)} {r : Bool} (h : ref44_Same a_ b_ = some r) : Fn dr Try.prog 13 [VF (List.map api_Debt.enc a_), VF (List.map api_Debt.enc b_)] (VB r) := by
  refine Fn.of_AW (dr := dr) (F := FnX dr Try.prog) (base := 0) (js := [8]) mixed tok noeqs (fun _ _ _ h => h) Try.call13 Try.func13 rfl Try.ntmps13 (by rw [Try.results13]) (by simp) ?_; have hG : (fun x => x = r) r := rfl; unfold ref44_Same at h; refine Zap 9 rfl ?_; refine Y1 rfl ?_; refine W.len rfl ?_; refine Zpp 1 rfl ?_; refine Y1 rfl ?_; refine W.len rfl ?_; refine Zpc 3 rfl ?_; refine A.condB rfl h (fun _ h => ?_) (fun _ h => ?_)
  · refine Zcb 7 rfl ?_; cases h; cases hG; exact ⟨rfl, trivial⟩
  · refine Zcc 2 rfl ?_; refine A.join (fun (s2 : Unit) => []) (fun s2 => []) _ h hG rfl ?_ ?_
    · intro J f h hG; refine Zac 6 rfl ?_; refine A.loop (fun (s3 : Int) => [(0, VF (List.map api_Debt.enc a_)), (1, VF (List.map api_Debt.enc b_)), (5, VI s3)]) (fun s3 => []) _ h hG (Zf [] [] rfl rfl (Ze rfl rfl (Ze rfl rfl (Ze rfl rfl trivial))) trivial) ?_; intro J s3 f h hG; unfold ref44_Same_L1 at h; refine Zap 5 rfl ?_; refine Y1 rfl ?_; refine W.len rfl ?_; refine Zpc 3 rfl ?_; refine A.condB rfl h (fun _ h => ?_) (fun _ h => ?_)
      · refine Zcc 5 rfl ?_; refine A.regionD (by kernel_rfl) ?_; refine Zpp 2 rfl ?_; refine Y1 rfl ?_; refine bindK h fun x23 hx23 h => ?_; refine W.chk rfl (elemB hx23) ?_; refine W.elem rfl (elemG hx23) ?_; refine W.chk rfl rfl ?_; refine W.det (.fp [.v (.int .i64 x23.Event), .v (.int .i64 x23.Net)]) _ rfl ?_; refine Zo (.agg (api_Debt.av x23)) rfl rfl ?_; refine Zpp 2 rfl ?_; refine Y1 rfl ?_; refine bindK h fun x24 hx24 h => ?_; refine W.chk rfl (elemB hx24) ?_; refine W.elem rfl (elemG hx24) ?_; refine W.chk rfl rfl ?_; refine W.det (.fp [.v (.int .i64 x24.Event), .v (.int .i64 x24.Net)]) _ rfl ?_; refine Zo (.agg (api_Debt.av x24)) rfl rfl ?_; refine Zpc 3 rfl ?_; refine A.condB rfl h (fun _ h => ?_) (fun _ h => ?_)
        · refine Zcb 8 rfl ?_; refine headK.r ?_; refine Zob 1 rfl ?_; refine headK.r ?_; cases h; cases hG; exact ⟨rfl, trivial⟩
        · refine Zcb 8 rfl ?_; cases h; exact Zh hG [] [] rfl rfl (Ze rfl rfl (Ze rfl rfl (Ze rfl rfl trivial))) trivial
      · refine Zcb 2 rfl ?_; refine headK.e ?_; refine Zob 1 rfl ?_; cases h; exact Zh hG [] [] rfl rfl trivial trivial
    · intro s2 r2 h hG; refine Zcb 6 rfl ?_; cases h; cases hG; exact ⟨rfl, trivial⟩
noncomputable def law44_small : Option (Bool) :=
  (law44_sample).bind fun y1 =>
  (seqF (A := Bool) (
    (debt_Asked y1.1 y1.2 (0 : Int) (4 : Int)).bind fun y8 =>
    (ref44_Ints y8 [(1 : Int)]).bind fun y9 =>
    (bif y9 then
      (debt_Asked y1.1 y1.2 (0 : Int) (5 : Int)).bind fun y10 =>
      (ref44_Ints y10 [(1 : Int), (3 : Int)]).bind fun y11 =>
      (bif y11 then
        (debt_Asked y1.1 y1.2 (0 : Int) (7 : Int)).bind fun y12 =>
        (ref44_Ints y12 [(1 : Int), (3 : Int), (4 : Int)]).bind fun y13 =>
        some (.inl y13)
      else
        some (.inl false))
    else
      some (.inl false)))
  fun s1 =>
    (seqF (A := Bool) (
      (debt_Asked y1.1 y1.2 (2 : Int) (9 : Int)).bind fun y17 =>
      (ref44_Ints y17 [(2 : Int), (4 : Int)]).bind fun y18 =>
      (bif y18 then
        (debt_Asked y1.1 y1.2 (1 : Int) (9 : Int)).bind fun y19 =>
        some (.inl (((y19.length : Nat) : Int) == (0 : Int)))
      else
        some (.inl false)))
    fun s2 =>
      (debt_Open y1.1 y1.2 [(api_Order.mk (0 : Int) (0 : Int) (0 : Int) (7 : Int))] [(api_Debt.mk (0 : Int) (3 : Int))]).bind fun y20 =>
      (debt_Add y20 (api_Debt.mk (0 : Int) (3 : Int))).bind fun y21 =>
      (debt_Confirm y21.1 (api_Debt.mk (0 : Int) (3 : Int))).bind fun y22 =>
      (debt_Confirm y22.1 (api_Debt.mk (0 : Int) (3 : Int))).bind fun y23 =>
      (bif s1 then
        (bif s2 then
          (ref44_Same y20 [(api_Debt.mk (0 : Int) (1 : Int)), (api_Debt.mk (0 : Int) (4 : Int))]).bind fun y24 =>
          (bif y24 then
            (bif (y21.2 == (0 : Int)) then
              (bif (y22.2 == (0 : Int)) then
                (bif (y23.2 == (4 : Int)) then
                  (ref44_Same y21.1 [(api_Debt.mk (0 : Int) (1 : Int)), (api_Debt.mk (0 : Int) (3 : Int)), (api_Debt.mk (0 : Int) (4 : Int))]).bind fun y25 =>
                  (bif y25 then
                    (ref44_Same y22.1 y20).bind fun y26 =>
                    some y26
                  else
                    some false)
                else
                  some false)
              else
                some false)
            else
              some false)
          else
            some false)
        else
          some false)
      else
        some false)))
theorem law44_small_fn {r : Bool} (h : law44_small = some r) : Fn False Try.prog 7 [] (VB r) := by
  refine Fn.of_AW (dr := False) (F := FnX False Try.prog) (base := 0) (js := [3, 4]) mixed tok noeqs (fun _ _ _ h => h) Try.call7 Try.func7 rfl Try.ntmps7 (by rw [Try.results7]) (by simp) ?_; have hG : (fun x => x = r) r := rfl; unfold law44_small at h; refine Zap 7 rfl ?_; refine Y1 rfl ?_; refine bindK h fun y1 hy1 h => ?_; refine W.call rfl (law44_sample_fn hy1) ?_; refine W.v (.tup [.row 1048589 1 (List.map api_Event.enc y1.1).length, .row 2097165 1 (List.map api_Sent.enc y1.2).length]) (.tup [.row 1048589 1 y1.1.length, .row 2097165 1 y1.2.length]) (Mem.add (Mem.add _ 1048589 (.rows 12 (List.map api_Event.enc y1.1) false)) 2097165 (.rows 3 (List.map api_Sent.enc y1.2) false)) rfl (by simp only [List.length_map]) ?_; refine Zo (.tup [.row 1048589 1 y1.1.length, .row 2097165 1 y1.2.length]) rfl rfl ?_; refine Zo (.row 1048589 1 y1.1.length) rfl rfl ?_; refine Zo (.row 2097165 1 y1.2.length) rfl rfl ?_; refine Zo (.row 1048589 1 y1.1.length) rfl rfl ?_; refine Zo (.row 2097165 1 y1.2.length) rfl rfl ?_; refine Zpc 2 rfl ?_; refine A.join (fun (s1 : Bool) => [(1, .row 900000 1 y1.1.length), (2, .row 900001 1 y1.2.length), (3, VB s1)]) (fun s1 => [(900000, .rows 12 (List.map api_Event.enc y1.1) true), (900001, .rows 3 (List.map api_Sent.enc y1.2) true)]) _ h hG rfl ?_ ?_
  · intro J f h hG; refine Zap 1 rfl ?_; refine Zo (.row 1048589 1 y1.1.length) rfl rfl ?_; refine Zo (.row 2097165 1 y1.2.length) rfl rfl ?_; refine Y1 rfl ?_; refine bindK h fun y8 hy8 h => ?_; refine W.call rfl (debt_Asked_fn hy8) ?_; refine W.v (.row 18 1 (List.map (encI .i64) y8).length) (.row 18 1 y8.length) (Mem.add (Mem.set (Mem.set _ 1048589 1 (some (.rows 12 (List.map api_Event.enc y1.1) true))) 2097165 1 (some (.rows 3 (List.map api_Sent.enc y1.2) true))) 18 (.rows 1 (List.map (encI .i64) y8) false)) rfl (by simp only [List.length_map]) ?_; refine Zm (.row 19 1 1) (Mem.add _ 19 (.rows 1 (List.map (encI .i64) [(1 : Int)]) false)) rfl rfl ?_; refine Y1 rfl ?_; refine bindK h fun y9 hy9 h => ?_; refine W.call rfl (ref44_Ints_fn hy9) ?_; refine Zwp 2 rfl ?_; refine YT rfl rfl rfl h (fun _ h => ?_) (fun _ h => ?_)
    · refine W.det (.row 1048589 1 y1.1.length) _ rfl ?_; refine Zu (.row 2097165 1 y1.2.length) rfl rfl rfl rfl ?_; refine Y2 rfl rfl rfl ?_; refine bindK h fun y10 hy10 h => ?_; refine W.call rfl (debt_Asked_fn hy10) ?_; refine W.v (.row 24 1 (List.map (encI .i64) y10).length) (.row 24 1 y10.length) (Mem.add (Mem.set (Mem.set _ 1048589 1 (some (.rows 12 (List.map api_Event.enc y1.1) true))) 2097165 1 (some (.rows 3 (List.map api_Sent.enc y1.2) true))) 24 (.rows 1 (List.map (encI .i64) y10) false)) rfl (by simp only [List.length_map]) ?_; refine Zv (.row 25 1 2) (Mem.add _ 25 (.rows 1 (List.map (encI .i64) [(1 : Int), (3 : Int)]) false)) rfl rfl rfl rfl ?_; refine Y2 rfl rfl rfl ?_; refine bindK h fun y11 hy11 h => ?_; refine W.call rfl (ref44_Ints_fn hy11) ?_; refine Zwp 3 rfl ?_; refine YT rfl rfl rfl h (fun _ h => ?_) (fun _ h => ?_)
      · refine W.det (.row 1048589 1 y1.1.length) _ rfl ?_; refine Zu (.row 2097165 1 y1.2.length) rfl rfl rfl rfl ?_; refine Y2 rfl rfl rfl ?_; refine bindK h fun y12 hy12 h => ?_; refine W.call rfl (debt_Asked_fn hy12) ?_; refine W.v (.row 31 1 (List.map (encI .i64) y12).length) (.row 31 1 y12.length) (Mem.add (Mem.set (Mem.set _ 1048589 1 (some (.rows 12 (List.map api_Event.enc y1.1) true))) 2097165 1 (some (.rows 3 (List.map api_Sent.enc y1.2) true))) 31 (.rows 1 (List.map (encI .i64) y12) false)) rfl (by simp only [List.length_map]) ?_; refine Zv (.row 32 1 3) (Mem.add _ 32 (.rows 1 (List.map (encI .i64) [(1 : Int), (3 : Int), (4 : Int)]) false)) rfl rfl rfl rfl ?_; refine Y2 rfl rfl rfl ?_; refine bindK h fun y13 hy13 h => ?_; refine W.call rfl (ref44_Ints_fn hy13) ?_; refine Zwb 4 rfl ?_; cases h; exact Zh hG [] [(900000, (1048589, 1)), (900001, (2097165, 1))] rfl rfl (Ze rfl rfl (Ze rfl rfl (Ze rfl rfl trivial))) (Zc rfl rfl (Zc rfl rfl trivial))
      · refine Zpb 7 rfl ?_; cases h; exact Zh hG [] [(900000, (1048589, 1)), (900001, (2097165, 1))] rfl rfl (Ze rfl rfl (Ze rfl rfl (Ze rfl rfl trivial))) (Zc rfl rfl (Zc rfl rfl trivial))
    · refine Zpb 14 rfl ?_; cases h; exact Zh hG [] [(900000, (1048589, 1)), (900001, (2097165, 1))] rfl rfl (Ze rfl rfl (Ze rfl rfl (Ze rfl rfl trivial))) (Zc rfl rfl (Zc rfl rfl trivial))
  · intro s1 r2 h hG; refine A.join (fun (s2 : Bool) => [(1, .row 900000 1 y1.1.length), (2, .row 900001 1 y1.2.length), (3, VB s1), (4, VB s2)]) (fun s2 => [(900000, .rows 12 (List.map api_Event.enc y1.1) true), (900001, .rows 3 (List.map api_Sent.enc y1.2) true)]) _ h hG rfl ?_ ?_
    · intro J f h hG; refine Zap 1 rfl ?_; refine Zo (.row 900000 1 y1.1.length) rfl rfl ?_; refine Zo (.row 900001 1 y1.2.length) rfl rfl ?_; refine Y1 rfl ?_; refine bindK h fun y17 hy17 h => ?_; refine W.call rfl (debt_Asked_fn hy17) ?_; refine W.v (.row 37 2 (List.map (encI .i64) y17).length) (.row 37 2 y17.length) (Mem.add (Mem.set (Mem.set _ 900000 1 (some (.rows 12 (List.map api_Event.enc y1.1) true))) 900001 1 (some (.rows 3 (List.map api_Sent.enc y1.2) true))) 37 (.rows 1 (List.map (encI .i64) y17) false)) rfl (by simp only [List.length_map]) ?_; refine Zm (.row 38 2 2) (Mem.add _ 38 (.rows 1 (List.map (encI .i64) [(2 : Int), (4 : Int)]) false)) rfl rfl ?_; refine Y1 rfl ?_; refine bindK h fun y18 hy18 h => ?_; refine W.call rfl (ref44_Ints_fn hy18) ?_; refine Zwp 2 rfl ?_; refine YT rfl rfl rfl h (fun _ h => ?_) (fun _ h => ?_)
      · refine W.det (.row 900000 1 y1.1.length) _ rfl ?_; refine Zu (.row 900001 1 y1.2.length) rfl rfl rfl rfl ?_; refine Y2 rfl rfl rfl ?_; refine bindK h fun y19 hy19 h => ?_; refine W.call rfl (debt_Asked_fn hy19) ?_; refine W.v (.row 43 2 (List.map (encI .i64) y19).length) (.row 43 2 y19.length) (Mem.add (Mem.set (Mem.set _ 900000 1 (some (.rows 12 (List.map api_Event.enc y1.1) true))) 900001 1 (some (.rows 3 (List.map api_Sent.enc y1.2) true))) 43 (.rows 1 (List.map (encI .i64) y19) false)) rfl (by simp only [List.length_map]) ?_; refine Zpb 5 rfl ?_; cases h; exact Zh hG [] [(900000, (900000, 1)), (900001, (900001, 1))] rfl rfl (Ze rfl rfl (Ze rfl rfl (Ze rfl rfl (Ze rfl rfl trivial)))) (Zc rfl rfl (Zc rfl rfl trivial))
      · refine Zpb 7 rfl ?_; cases h; exact Zh hG [] [(900000, (900000, 1)), (900001, (900001, 1))] rfl rfl (Ze rfl rfl (Ze rfl rfl (Ze rfl rfl (Ze rfl rfl trivial)))) (Zc rfl rfl (Zc rfl rfl trivial))
    · intro s2 r2 h hG; refine Zcp 2 rfl ?_; refine Zo (.row 900000 1 y1.1.length) rfl rfl ?_; refine Zo (.row 900001 1 y1.2.length) rfl rfl ?_; refine Zo (.agg [VI 0, VI 0, VI 0, VI 7]) rfl rfl ?_; refine Zm (.row 50 2 1) (Mem.add _ 50 (.rows 4 (List.map api_Order.enc [(api_Order.mk (0 : Int) (0 : Int) (0 : Int) (7 : Int))]) false)) rfl rfl ?_; refine Zo (.agg [VI 0, VI 3]) rfl rfl ?_; refine Zm (.row 52 2 1) (Mem.add _ 52 (.rows 2 (List.map api_Debt.enc [(api_Debt.mk (0 : Int) (3 : Int))]) false)) rfl rfl ?_; refine Y1 rfl ?_; refine bindK h fun y20 hy20 h => ?_; refine W.call rfl (debt_Open_fn hy20) ?_; refine W.v (.row 53 2 (List.map api_Debt.enc y20).length) (.row 53 2 y20.length) (Mem.add (Mem.set (Mem.set (Mem.set (Mem.set _ 900000 1 (some (.rows 12 (List.map api_Event.enc y1.1) true))) 900001 1 (some (.rows 3 (List.map api_Sent.enc y1.2) true))) 50 2 (some (.rows 4 (List.map api_Order.enc [(api_Order.mk (0 : Int) (0 : Int) (0 : Int) (7 : Int))]) true))) 52 2 (some (.rows 2 (List.map api_Debt.enc [(api_Debt.mk (0 : Int) (3 : Int))]) true))) 53 (.rows 2 (List.map api_Debt.enc y20) false)) rfl (by simp only [List.length_map]) ?_; refine Zo (.row 53 2 y20.length) rfl rfl ?_; refine Zpp 4 rfl ?_; refine Zo (.row 53 2 y20.length) rfl rfl ?_; refine Zo (.agg [VI 0, VI 3]) rfl rfl ?_; refine Y1 rfl ?_; refine bindK h fun y21 hy21 h => ?_; refine W.call rfl (debt_Add_fn hy21) ?_; refine W.v (.tup [.row 1048633 2 (List.map api_Debt.enc y21.1).length, VI y21.2]) (.tup [.row 1048633 2 y21.1.length, VI y21.2]) (Mem.add (Mem.set _ 53 2 (some (.rows 2 (List.map api_Debt.enc y20) true))) 1048633 (.rows 2 (List.map api_Debt.enc y21.1) false)) rfl (by simp only [List.length_map]) ?_; refine Zo (.tup [.row 1048633 2 y21.1.length, VI y21.2]) rfl rfl ?_; refine Zo (.row 1048633 2 y21.1.length) rfl rfl ?_; refine Zpp 1 rfl ?_; refine Zo (.row 1048633 2 y21.1.length) rfl rfl ?_; refine Zpp 5 rfl ?_; refine Zo (.row 1048633 2 y21.1.length) rfl rfl ?_; refine Zo (.agg [VI 0, VI 3]) rfl rfl ?_; refine Y1 rfl ?_; refine bindK h fun y22 hy22 h => ?_; refine W.call rfl (debt_Confirm_fn hy22) ?_; refine W.v (.tup [.row 1048639 2 (List.map api_Debt.enc y22.1).length, VI y22.2]) (.tup [.row 1048639 2 y22.1.length, VI y22.2]) (Mem.add (Mem.set _ 1048633 2 (some (.rows 2 (List.map api_Debt.enc y21.1) true))) 1048639 (.rows 2 (List.map api_Debt.enc y22.1) false)) rfl (by simp only [List.length_map]) ?_; refine Zo (.tup [.row 1048639 2 y22.1.length, VI y22.2]) rfl rfl ?_; refine Zo (.row 1048639 2 y22.1.length) rfl rfl ?_; refine Zpp 1 rfl ?_; refine Zo (.row 1048639 2 y22.1.length) rfl rfl ?_; refine Zpp 5 rfl ?_; refine Zo (.row 1048639 2 y22.1.length) rfl rfl ?_; refine Zo (.agg [VI 0, VI 3]) rfl rfl ?_; refine Y1 rfl ?_; refine bindK h fun y23 hy23 h => ?_; refine W.call rfl (debt_Confirm_fn hy23) ?_; refine W.v (.tup [.row 1048645 2 (List.map api_Debt.enc y23.1).length, VI y23.2]) (.tup [.row 1048645 2 y23.1.length, VI y23.2]) (Mem.add (Mem.set _ 1048639 2 (some (.rows 2 (List.map api_Debt.enc y22.1) true))) 1048645 (.rows 2 (List.map api_Debt.enc y23.1) false)) rfl (by simp only [List.length_map]) ?_
      refine Zo (.tup [.row 1048645 2 y23.1.length, VI y23.2]) rfl rfl ?_; refine Zo (.row 1048645 2 y23.1.length) rfl rfl ?_; refine Zpp 1 rfl ?_; refine Zo (.row 1048645 2 y23.1.length) rfl rfl ?_; refine Zpp 7 rfl ?_; refine YT rfl rfl rfl h (fun _ h => ?_) (fun _ h => ?_)
      · refine Zwp 3 rfl ?_; refine YT rfl rfl rfl h (fun _ h => ?_) (fun _ h => ?_)
        · refine W.det (.row 53 2 y20.length) _ rfl ?_; refine Zu (.agg [VI 0, VI 1]) rfl rfl rfl rfl ?_; refine Zu (.agg [VI 0, VI 4]) rfl rfl rfl rfl ?_; refine Zv (.row 80 2 2) (Mem.add _ 80 (.rows 2 (List.map api_Debt.enc [(api_Debt.mk (0 : Int) (1 : Int)), (api_Debt.mk (0 : Int) (4 : Int))]) false)) rfl rfl rfl rfl ?_; refine Y2 rfl rfl rfl ?_; refine bindK h fun y24 hy24 h => ?_; refine W.call rfl (ref44_Same_fn hy24) ?_; refine Zwp 3 rfl ?_; refine YT rfl rfl rfl h (fun _ h => ?_) (fun _ h => ?_)
          · refine Zwp 4 rfl ?_; refine YT rfl rfl rfl h (fun _ h => ?_) (fun _ h => ?_)
            · refine Zwp 4 rfl ?_; refine YT rfl rfl rfl h (fun _ h => ?_) (fun _ h => ?_)
              · refine Zwp 4 rfl ?_; refine YT rfl rfl rfl h (fun _ h => ?_) (fun _ h => ?_)
                · refine W.det (.row 1048633 2 y21.1.length) _ rfl ?_; refine Zu (.agg [VI 0, VI 1]) rfl rfl rfl rfl ?_; refine Zu (.agg [VI 0, VI 3]) rfl rfl rfl rfl ?_; refine Zu (.agg [VI 0, VI 4]) rfl rfl rfl rfl ?_; refine Zv (.row 100 2 3) (Mem.add _ 100 (.rows 2 (List.map api_Debt.enc [(api_Debt.mk (0 : Int) (1 : Int)), (api_Debt.mk (0 : Int) (3 : Int)), (api_Debt.mk (0 : Int) (4 : Int))]) false)) rfl rfl rfl rfl ?_; refine Y2 rfl rfl rfl ?_; refine bindK h fun y25 hy25 h => ?_; refine W.call rfl (ref44_Same_fn hy25) ?_; refine Zwp 3 rfl ?_; refine YT rfl rfl rfl h (fun _ h => ?_) (fun _ h => ?_)
                  · refine W.det (.row 1048639 2 y22.1.length) _ rfl ?_; refine Zu (.row 53 2 y20.length) rfl rfl rfl rfl ?_; refine Y2 rfl rfl rfl ?_; refine bindK h fun y26 hy26 h => ?_; refine W.call rfl (ref44_Same_fn hy26) ?_; refine Zwb 6 rfl ?_; cases h; cases hG; exact ⟨rfl, trivial⟩
                  · refine Zpb 7 rfl ?_; cases h; cases hG; exact ⟨rfl, trivial⟩
                · refine Zpb 15 rfl ?_; cases h; cases hG; exact ⟨rfl, trivial⟩
              · refine Zpb 19 rfl ?_; cases h; cases hG; exact ⟨rfl, trivial⟩
            · refine Zpb 23 rfl ?_; cases h; cases hG; exact ⟨rfl, trivial⟩
          · refine Zpb 27 rfl ?_; cases h; cases hG; exact ⟨rfl, trivial⟩
        · refine Zpb 34 rfl ?_; cases h; cases hG; exact ⟨rfl, trivial⟩
      · refine Zpb 37 rfl ?_; cases h; cases hG; exact ⟨rfl, trivial⟩
noncomputable def ref44_Few (events_ : (List api_Event)) (sent_ : (List api_Sent)) (orders_ : (List api_Order)) (done_ : (List api_Debt)) : Option (Bool) :=
  (bif (decide ((events_.length : Int) ≤ (40 : Int))) then
    (bif (decide ((sent_.length : Int) ≤ (40 : Int))) then
      (bif (decide ((orders_.length : Int) ≤ (20 : Int))) then
        some (decide ((done_.length : Int) ≤ (40 : Int)))
      else
        some false)
    else
      some false)
  else
    some false)
theorem ref44_Few_fn {dr : Prop} {events_ : (List api_Event)} {sent_ : (List api_Sent)} {orders_ : (List api_Order)} {done_ : (List api_Debt)} {r : Bool} (h : ref44_Few events_ sent_ orders_ done_ = some r) : Fn dr Try.prog 8 [VF (List.map api_Event.enc events_), VF (List.map api_Sent.enc sent_), VF (List.map api_Order.enc orders_), VF (List.map api_Debt.enc done_)] (VB r) := by
  refine Fn.of_AW (dr := dr) (F := FnX dr Try.prog) (base := 0) (js := []) mixed tok noeqs (fun _ _ _ h => h) Try.call8 Try.func8 rfl Try.ntmps8 (by rw [Try.results8]) (by simp) ?_; have hG : (fun x => x = r) r := rfl; unfold ref44_Few at h; refine Zap 8 rfl ?_; refine Y1 rfl ?_; refine W.len rfl ?_; refine Zpp 2 rfl ?_; refine YT rfl rfl rfl h (fun _ h => ?_) (fun _ h => ?_)
  · refine Zwp 1 rfl ?_; refine Y2 rfl rfl rfl ?_; refine W.len rfl ?_; refine Zpp 3 rfl ?_; refine YT rfl rfl rfl h (fun _ h => ?_) (fun _ h => ?_)
    · refine Zwp 1 rfl ?_; refine Y2 rfl rfl rfl ?_; refine W.len rfl ?_; refine Zpp 3 rfl ?_; refine YT rfl rfl rfl h (fun _ h => ?_) (fun _ h => ?_)
      · refine Zwp 1 rfl ?_; refine Y2 rfl rfl rfl ?_; refine W.len rfl ?_; refine Zpb 6 rfl ?_; cases h; cases hG; exact ⟨rfl, trivial⟩
      · refine Zpb 7 rfl ?_; cases h; cases hG; exact ⟨rfl, trivial⟩
    · refine Zpb 12 rfl ?_; cases h; cases hG; exact ⟨rfl, trivial⟩
  · refine Zpb 17 rfl ?_; cases h; cases hG; exact ⟨rfl, trivial⟩
noncomputable def ref44_fine (d_ : api_Debt) : Option (Bool) :=
  (bif (decide ((0 : Int) ≤ d_.Event)) then
    (bif (decide (d_.Event < (100000 : Int))) then
      (bif (decide ((0 : Int) ≤ d_.Net)) then
        some (decide (d_.Net < (12 : Int)))
      else
        some false)
    else
      some false)
  else
    some false)
theorem ref44_fine_fn {dr : Prop} {d_ : api_Debt} {r : Bool} (h : ref44_fine d_ = some r) : Fn dr Try.prog 28 [.agg (api_Debt.av d_)] (VB r) := by
  refine Fn.of_AW (dr := dr) (F := FnX dr Try.prog) (base := 0) (js := []) mixed tok noeqs (fun _ _ _ h => h) Try.call28 Try.func28 rfl Try.ntmps28 (by rw [Try.results28]) (by simp) ?_; have hG : (fun x => x = r) r := rfl; unfold ref44_fine at h; refine Zap 2 rfl ?_; refine Zm (.lp 1 1 0) (Mem.add _ 1 (.box (api_Debt.av d_))) rfl rfl ?_; refine Zpp 9 rfl ?_; refine YT rfl rfl rfl h (fun _ h => ?_) (fun _ h => ?_)
  · refine Zwp 5 rfl ?_; refine YT rfl rfl rfl h (fun _ h => ?_) (fun _ h => ?_)
    · refine Zwp 5 rfl ?_; refine YT rfl rfl rfl h (fun _ h => ?_) (fun _ h => ?_)
      · refine Zwb 8 rfl ?_; cases h; cases hG; exact ⟨rfl, trivial⟩
      · refine Zpb 7 rfl ?_; cases h; cases hG; exact ⟨rfl, trivial⟩
    · refine Zpb 12 rfl ?_; cases h; cases hG; exact ⟨rfl, trivial⟩
  · refine Zpb 17 rfl ?_; cases h; cases hG; exact ⟨rfl, trivial⟩
noncomputable def ref44_less (a_ : api_Debt) (b_ : api_Debt) : Option (Bool) :=
  (bif (decide (a_.Event < b_.Event)) then
    some true
  else
    (bif (a_.Event == b_.Event) then
      some (decide (a_.Net < b_.Net))
    else
      some false))
theorem ref44_less_fn {dr : Prop} {a_ : api_Debt} {b_ : api_Debt} {r : Bool} (h : ref44_less a_ b_ = some r) : Fn dr Try.prog 44 [.agg (api_Debt.av a_), .agg (api_Debt.av b_)] (VB r) := by
  refine Fn.of_AW (dr := dr) (F := FnX dr Try.prog) (base := 0) (js := []) mixed tok noeqs (fun _ _ _ h => h) Try.call44 Try.func44 rfl Try.ntmps44 (by rw [Try.results44]) (by simp) ?_; have hG : (fun x => x = r) r := rfl; unfold ref44_less at h; refine Zap 2 rfl ?_; refine Zm (.lp 2 1 0) (Mem.add _ 2 (.box (api_Debt.av a_))) rfl rfl ?_; refine Zm (.lp 3 1 0) (Mem.add _ 3 (.box (api_Debt.av b_))) rfl rfl ?_; refine Zpp 11 rfl ?_; refine YF rfl rfl rfl h (fun _ h => ?_) (fun _ h => ?_)
  · refine Zpb 16 rfl ?_; cases h; cases hG; exact ⟨rfl, trivial⟩
  · refine Zwp 6 rfl ?_; refine YT rfl rfl rfl h (fun _ h => ?_) (fun _ h => ?_)
    · refine Zwb 11 rfl ?_; cases h; cases hG; exact ⟨rfl, trivial⟩
    · refine Zpb 10 rfl ?_; cases h; cases hG; exact ⟨rfl, trivial⟩
end Go.Proofs.Ytomfmjejoocmmaa
