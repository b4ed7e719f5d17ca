/-
  Plain programs of functions, and that the functions do what they say. Printed by wip/tools/gen.py.
-/
import Derived.Test.YtomfmjejoocmmaaG2
namespace Go.Proofs.Ytomfmjejoocmmaa
open Go.RowKit
attribute [local irreducible] IntKind.wrap AW runL Step.wp
set_option linter.unusedVariables false
set_option maxHeartbeats 4000000
set_option maxRecDepth 100000
noncomputable def law44_DebtUndoes_L1 (p_ : (List api_Debt)) (s6 : (List api_Debt) × Int) : Option (((List api_Debt) × Int) ⊕ (((List api_Debt)) ⊕ (Bool))) :=
  (bif (decide (s6.2 < (p_.length : Int))) then
    (chkO ((p_.length : Int) != 0)).bind fun _ =>
    (getI p_ (Int.tmod (IntKind.i64.wrap (s6.2 * (7 : Int))) (p_.length : Int))).bind fun x50 =>
    (debt_Confirm s6.1 x50).bind fun y51 =>
    (bif (y51.2 == (0 : Int)) then
      (bif (((y51.1.length : Nat) : Int) == (IntKind.i64.wrap ((s6.1.length : Int) - (1 : Int)))) then
        some (.inl (y51.1, (IntKind.i64.wrap (s6.2 + (1 : Int)))))
      else
        some (.inl (s6.1, (IntKind.i64.wrap (s6.2 + (1 : Int))))))
    else
      some (.inl (s6.1, (IntKind.i64.wrap (s6.2 + (1 : Int))))))
  else
    some (.inr (.inl s6.1)))
noncomputable def law44_DebtUndoes (p_ : (List api_Debt)) (p1_ : api_Debt) : Option (Bool) :=
  (law44_small).bind fun y1 =>
  (bif (decide ((40 : Int) < (p_.length : Int))) then
    some y1
  else
    (debt_Add p_ p1_).bind fun y2 =>
    (debt_Confirm p_ p1_).bind fun y3 =>
    (seqF (A := Unit) (
      (bif (y2.2 == (0 : Int)) then
        (debt_Confirm y2.1 p1_).bind fun y7 =>
        (bif (y7.2 != (0 : Int)) then
          some (.inr false)
        else
          (ref44_Same y7.1 p_).bind fun y9 =>
          (bif (!y9) then
            some (.inr false)
          else
            (bif (y3.2 != (4 : Int)) then
              some (.inr false)
            else
              (bif (((y2.1.length : Nat) : Int) != (IntKind.i64.wrap ((p_.length : Int) + (1 : Int)))) then
                some (.inr false)
              else
                some (.inl ())))))
      else
        some (.inl ())))
    fun s1 =>
      (seqF (A := Unit) (
        (bif (y3.2 == (0 : Int)) then
          (debt_Add y3.1 p1_).bind fun y13 =>
          (bif (y13.2 != (0 : Int)) then
            some (.inr false)
          else
            (ref44_Same y13.1 p_).bind fun y15 =>
            (bif (!y15) then
              some (.inr false)
            else
              (bif (y2.2 != (5 : Int)) then
                some (.inr false)
              else
                some (.inl ()))))
        else
          some (.inl ())))
      fun s2 =>
        (seqF (A := Unit) (
          (bif (y2.2 != (0 : Int)) then
            (bif (y3.2 != (0 : Int)) then
              (bif y1 then
                (bif (y2.2 == (1 : Int)) then
                  (bif (y3.2 == (1 : Int)) then
                    some (.inr ((IntKind.i64.wrap ((y2.1.length : Int) + (y3.1.length : Int))) == (0 : Int)))
                  else
                    some (.inr false))
                else
                  some (.inr false))
              else
                some (.inr false))
            else
              some (.inl ()))
          else
            some (.inl ())))
        fun s3 =>
          (seqF (A := (List api_Debt)) (
            loopF (law44_DebtUndoes_L1 p_) (p_, (0 : Int)))
          fun s5 =>
            (bif y1 then
              (bif ((Int.tmod (p_.length : Int) (7 : Int)) == (0 : Int)) then
                some true
              else
                some ((s5.length : Int) == (0 : Int)))
            else
              some false))))))
theorem law44_DebtUndoes_fn {p_ : (List api_Debt)} {p1_ : api_Debt} {r : Bool} (h : law44_DebtUndoes p_ p1_ = some r) : Fn False Try.prog 6 [VF (List.map api_Debt.enc p_), .agg (api_Debt.av p1_)] (VB r) := by
  refine Fn.of_AW (dr := False) (F := FnX False Try.prog) (base := 0) (js := [10, 14, 16, 23]) mixed tok noeqs (fun _ _ _ h => h) Try.call6 Try.func6 rfl Try.ntmps6 (by rw [Try.results6]) (by simp) ?_; have hG : (fun x => x = r) r := rfl; unfold law44_DebtUndoes at h; refine Zap 2 rfl ?_; refine Zm (.lp 3 1 0) (Mem.add _ 3 (.box (api_Debt.av p1_))) rfl rfl ?_; refine Zpp 5 rfl ?_; refine Y1 rfl ?_; refine bindK h fun y1 hy1 h => ?_; refine W.call rfl (law44_small_fn hy1) ?_; refine Zwp 8 rfl ?_; refine Y1 rfl ?_; refine W.len rfl ?_; refine Zpc 3 rfl ?_; refine A.condB rfl h (fun _ h => ?_) (fun _ h => ?_)
  · refine Zcb 8 rfl ?_; cases h; cases hG; exact ⟨rfl, trivial⟩
  · refine Zcp 5 rfl ?_; refine Zo (.agg (api_Debt.av p1_)) rfl rfl ?_; refine Y1 rfl ?_; refine bindK h fun y2 hy2 h => ?_; refine W.call rfl (debt_Add_fn hy2) ?_; refine W.v (.tup [.row 1048602 1 (List.map api_Debt.enc y2.1).length, VI y2.2]) (.tup [.row 1048602 1 y2.1.length, VI y2.2]) (Mem.add _ 1048602 (.rows 2 (List.map api_Debt.enc y2.1) false)) rfl (by simp only [List.length_map]) ?_; refine Zo (.tup [.row 1048602 1 y2.1.length, VI y2.2]) rfl rfl ?_; refine Zo (.row 1048602 1 y2.1.length) rfl rfl ?_; refine Zpp 1 rfl ?_; refine Zo (.row 1048602 1 y2.1.length) rfl rfl ?_; refine Zpp 6 rfl ?_; refine Zo (.agg (api_Debt.av p1_)) rfl rfl ?_; refine Y1 rfl ?_; refine bindK h fun y3 hy3 h => ?_; refine W.call rfl (debt_Confirm_fn hy3) ?_; refine W.v (.tup [.row 1048608 1 (List.map api_Debt.enc y3.1).length, VI y3.2]) (.tup [.row 1048608 1 y3.1.length, VI y3.2]) (Mem.add _ 1048608 (.rows 2 (List.map api_Debt.enc y3.1) false)) rfl (by simp only [List.length_map]) ?_; refine Zo (.tup [.row 1048608 1 y3.1.length, VI y3.2]) rfl rfl ?_; refine Zo (.row 1048608 1 y3.1.length) rfl rfl ?_; refine Zpp 1 rfl ?_; refine Zo (.row 1048608 1 y3.1.length) rfl rfl ?_; refine Zpc 3 rfl ?_; refine A.join (fun (s1 : Unit) => [(0, VF (List.map api_Debt.enc p_)), (3, .lp 900000 1 0), (5, VB y1), (6, VF (List.map api_Debt.enc y2.1)), (7, VI y2.2), (8, .row 900001 1 y3.1.length), (9, VI y3.2)]) (fun s1 => [(900000, .box (api_Debt.av p1_)), (900001, .rows 2 (List.map api_Debt.enc y3.1) false)]) _ h hG rfl ?_ ?_
    · intro J f h hG; refine Zac 6 rfl ?_; refine A.condB rfl h (fun _ h => ?_) (fun _ h => ?_)
      · refine Zcp 2 rfl ?_; refine Zo (.row 1048602 1 y2.1.length) rfl rfl ?_; refine Zo (.agg (api_Debt.av p1_)) rfl rfl ?_; refine Y1 rfl ?_; refine bindK h fun y7 hy7 h => ?_; refine W.call rfl (debt_Confirm_fn hy7) ?_; refine W.v (.tup [.row 1048616 1 (List.map api_Debt.enc y7.1).length, VI y7.2]) (.tup [.row 1048616 1 y7.1.length, VI y7.2]) (Mem.add (Mem.set _ 1048602 1 (some (.rows 2 (List.map api_Debt.enc y2.1) true))) 1048616 (.rows 2 (List.map api_Debt.enc y7.1) false)) rfl (by simp only [List.length_map]) ?_; refine Zo (.tup [.row 1048616 1 y7.1.length, VI y7.2]) rfl rfl ?_; refine Zo (.row 1048616 1 y7.1.length) rfl rfl ?_; refine Zpp 1 rfl ?_; refine Zo (.row 1048616 1 y7.1.length) rfl rfl ?_; refine Zpp 8 rfl ?_; refine YF rfl rfl rfl h (fun _ h => ?_) (fun _ h => ?_)
        · refine Zpb 25 rfl ?_; refine headK.r ?_; cases h; cases hG; exact ⟨rfl, trivial⟩
        · refine W.det (.row 1048616 1 y7.1.length) _ rfl ?_; refine Zpp 1 rfl ?_; refine Y2 rfl rfl rfl ?_; refine bindK h fun y9 hy9 h => ?_; refine W.call rfl (ref44_Same_fn hy9) ?_; refine Zwp 4 rfl ?_; refine YF rfl rfl rfl h (fun _ h => ?_) (fun _ h => ?_)
          · refine Zpb 19 rfl ?_; refine headK.r ?_; cases h; cases hG; exact ⟨rfl, trivial⟩
          · refine Zwp 4 rfl ?_; refine YF rfl rfl rfl h (fun _ h => ?_) (fun _ h => ?_)
            · refine Zpb 15 rfl ?_; refine headK.r ?_; cases h; cases hG; exact ⟨rfl, trivial⟩
            · refine W.det (.row 1048602 1 y2.1.length) _ rfl ?_; refine Zpp 2 rfl ?_; refine Y2 rfl rfl rfl ?_; refine W.len rfl ?_; refine Zpc 5 rfl ?_; refine A.condB rfl h (fun _ h => ?_) (fun _ h => ?_)
              · refine Zcb 6 rfl ?_; refine headK.r ?_; cases h; cases hG; exact ⟨rfl, trivial⟩
              · refine Zcb 1 rfl ?_; cases h; exact Zh hG [(1048602, 1)] [(900000, (3, 1)), (900001, (1048608, 1))] rfl rfl (Ze rfl rfl (Ze rfl rfl (Ze rfl rfl (Ze rfl rfl (Ze rfl rfl (Ze rfl rfl (Ze rfl rfl trivial))))))) (Zc rfl rfl (Zc rfl rfl trivial))
      · refine Zcb 1 rfl ?_; cases h; exact Zh hG [(1048602, 1)] [(900000, (3, 1)), (900001, (1048608, 1))] rfl rfl (Ze rfl rfl (Ze rfl rfl (Ze rfl rfl (Ze rfl rfl (Ze rfl rfl (Ze rfl rfl (Ze rfl rfl trivial))))))) (Zc rfl rfl (Zc rfl rfl trivial))
    · intro s1 r2 h hG; refine A.join (fun (s2 : Unit) => [(0, VF (List.map api_Debt.enc p_)), (5, VB y1), (6, VF (List.map api_Debt.enc y2.1)), (7, VI y2.2), (8, VF (List.map api_Debt.enc y3.1)), (9, VI y3.2)]) (fun s2 => []) _ h hG rfl ?_ ?_
      · intro J f h hG; refine Zac 6 rfl ?_; refine A.condB rfl h (fun _ h => ?_) (fun _ h => ?_)
        · refine Zcp 2 rfl ?_; refine Zo (.row 900001 1 y3.1.length) rfl rfl ?_; refine Zo (.agg (api_Debt.av p1_)) rfl rfl ?_; refine Y1 rfl ?_; refine bindK h fun y13 hy13 h => ?_; refine W.call rfl (debt_Add_fn hy13) ?_; refine W.v (.tup [.row 1048644 2 (List.map api_Debt.enc y13.1).length, VI y13.2]) (.tup [.row 1048644 2 y13.1.length, VI y13.2]) (Mem.add (Mem.set _ 900001 1 (some (.rows 2 (List.map api_Debt.enc y3.1) true))) 1048644 (.rows 2 (List.map api_Debt.enc y13.1) false)) rfl (by simp only [List.length_map]) ?_; refine Zo (.tup [.row 1048644 2 y13.1.length, VI y13.2]) rfl rfl ?_; refine Zo (.row 1048644 2 y13.1.length) rfl rfl ?_; refine Zpp 1 rfl ?_; refine Zo (.row 1048644 2 y13.1.length) rfl rfl ?_; refine Zpp 8 rfl ?_; refine YF rfl rfl rfl h (fun _ h => ?_) (fun _ h => ?_)
          · refine Zpb 17 rfl ?_; refine headK.r ?_; cases h; cases hG; exact ⟨rfl, trivial⟩
          · refine W.det (.row 1048644 2 y13.1.length) _ rfl ?_; refine Zpp 1 rfl ?_; refine Y2 rfl rfl rfl ?_; refine bindK h fun y15 hy15 h => ?_; refine W.call rfl (ref44_Same_fn hy15) ?_; refine Zwp 4 rfl ?_; refine YF rfl rfl rfl h (fun _ h => ?_) (fun _ h => ?_)
            · refine Zpb 11 rfl ?_; refine headK.r ?_; cases h; cases hG; exact ⟨rfl, trivial⟩
            · refine Zwc 5 rfl ?_; refine A.condB rfl h (fun _ h => ?_) (fun _ h => ?_)
              · refine Zcb 6 rfl ?_; refine headK.r ?_; cases h; cases hG; exact ⟨rfl, trivial⟩
              · refine Zcb 1 rfl ?_; cases h; exact Zh hG [(900001, 1)] [] rfl rfl (Ze rfl rfl (Ze rfl rfl (Ze rfl rfl (Ze rfl rfl (Ze rfl rfl (Ze rfl rfl trivial)))))) trivial
        · refine Zcb 1 rfl ?_; cases h; exact Zh hG [(900001, 1)] [] rfl rfl (Ze rfl rfl (Ze rfl rfl (Ze rfl rfl (Ze rfl rfl (Ze rfl rfl (Ze rfl rfl trivial)))))) trivial
      · intro s2 r2 h hG; refine A.join (fun (s3 : Unit) => [(0, VF (List.map api_Debt.enc p_)), (5, VB y1)]) (fun s3 => []) _ h hG rfl ?_ ?_
        · intro J f h hG; refine Zap 5 rfl ?_; refine YT rfl rfl rfl h (fun _ h => ?_) (fun _ h => ?_)
          · refine Zwc 5 rfl ?_; refine A.condB rfl h (fun _ h => ?_) (fun _ h => ?_)
            · refine Zcp 4 rfl ?_; refine YT rfl rfl rfl h (fun _ h => ?_) (fun _ h => ?_)
              · refine Zwp 4 rfl ?_; refine YT rfl rfl rfl h (fun _ h => ?_) (fun _ h => ?_)
                · refine Zwp 4 rfl ?_; refine YT rfl rfl rfl h (fun _ h => ?_) (fun _ h => ?_)
                  · refine Zwp 1 rfl ?_; refine Y2 rfl rfl rfl ?_; refine W.len rfl ?_; refine Zpp 1 rfl ?_; refine Y2 rfl rfl rfl ?_; refine W.len rfl ?_; refine Zpb 7 rfl ?_; refine headK.r ?_; cases h; cases hG; exact ⟨rfl, trivial⟩
                  · refine Zpb 10 rfl ?_; refine headK.r ?_; cases h; cases hG; exact ⟨rfl, trivial⟩
                · refine Zpb 14 rfl ?_; refine headK.r ?_; cases h; cases hG; exact ⟨rfl, trivial⟩
              · refine Zpb 18 rfl ?_; refine headK.r ?_; cases h; cases hG; exact ⟨rfl, trivial⟩
            · refine Zcb 1 rfl ?_; cases h; exact Zh hG [] [] rfl rfl (Ze rfl rfl (Ze rfl rfl trivial)) trivial
          · refine Zpb 6 rfl ?_; cases h; exact Zh hG [] [] rfl rfl (Ze rfl rfl (Ze rfl rfl trivial)) trivial
        · intro s3 r2 h hG; refine Zcc 6 rfl ?_; refine A.join (fun (s5 : (List api_Debt)) => [(0, VF (List.map api_Debt.enc p_)), (5, VB y1), (14, VF (List.map api_Debt.enc s5))]) (fun s5 => []) _ h hG rfl ?_ ?_
          · intro J f h hG; refine Zac 6 rfl ?_; refine A.loop (fun (s6 : (List api_Debt) × Int) => [(0, VF (List.map api_Debt.enc p_)), (5, VB y1), (14, VF (List.map api_Debt.enc s6.1)), (15, VI s6.2)]) (fun s6 => []) _ h hG (Zf [] [] rfl rfl (Ze rfl rfl (Ze rfl rfl (Ze rfl rfl (Ze rfl rfl trivial)))) trivial) ?_; intro J s6 f h hG; unfold law44_DebtUndoes_L1 at h; refine Zap 5 rfl ?_; refine Y1 rfl ?_; refine W.len rfl ?_; refine Zpc 3 rfl ?_; refine A.condB rfl h (fun _ h => ?_) (fun _ h => ?_)
            · refine Zcp 11 rfl ?_; refine Y1 rfl ?_; refine W.len rfl ?_; refine Y1 rfl ?_; refine chkK h fun g49 h => ?_; refine W.chk rfl (by simpa using g49) ?_; refine Zwp 1 rfl ?_; refine Y1 rfl ?_; refine bindK h fun x50 hx50 h => ?_; refine W.chk rfl (elemB hx50) ?_; refine W.elem rfl (elemG hx50) ?_; refine W.chk rfl rfl ?_; refine W.det (.fp [.v (.int .i64 x50.Event), .v (.int .i64 x50.Net)]) _ rfl ?_; refine Zo (.agg (api_Debt.av x50)) rfl rfl ?_; refine Y1 rfl ?_; refine bindK h fun y51 hy51 h => ?_; refine W.call rfl (debt_Confirm_fn hy51) ?_; refine W.v (.tup [.row 1048699 2 (List.map api_Debt.enc y51.1).length, VI y51.2]) (.tup [.row 1048699 2 y51.1.length, VI y51.2]) (Mem.add _ 1048699 (.rows 2 (List.map api_Debt.enc y51.1) false)) rfl (by simp only [List.length_map]) ?_; refine Zo (.tup [.row 1048699 2 y51.1.length, VI y51.2]) rfl rfl ?_; refine Zo (.row 1048699 2 y51.1.length) rfl rfl ?_; refine Zpp 1 rfl ?_; refine Zo (.row 1048699 2 y51.1.length) rfl rfl ?_; refine Zpp 8 rfl ?_; refine YT rfl rfl rfl h (fun _ h => ?_) (fun _ h => ?_)
              · refine W.det (.row 1048699 2 y51.1.length) _ rfl ?_; refine Zpp 2 rfl ?_; refine Y2 rfl rfl rfl ?_; refine W.len rfl ?_; refine Zpc 5 rfl ?_; refine A.condB rfl h (fun _ h => ?_) (fun _ h => ?_)
                · refine Zcp 1 rfl ?_; refine Zo (.row 1048699 2 y51.1.length) rfl rfl ?_; refine Zo (.row 1048699 2 y51.1.length) rfl rfl ?_; refine Zpb 8 rfl ?_; cases h; exact Zh hG [(1048699, 2)] [] rfl rfl (Ze rfl rfl (Ze rfl rfl (Ze rfl rfl (Ze rfl rfl trivial)))) trivial
                · refine Zcb 8 rfl ?_; cases h; exact Zh hG [] [] rfl rfl (Ze rfl rfl (Ze rfl rfl (Ze rfl rfl (Ze rfl rfl trivial)))) trivial
              · refine Zpb 17 rfl ?_; cases h; exact Zh hG [] [] rfl rfl (Ze rfl rfl (Ze rfl rfl (Ze rfl rfl (Ze rfl rfl trivial)))) trivial
            · refine Zcb 2 rfl ?_; refine headK.e ?_; refine Zob 1 rfl ?_; cases h; exact Zh hG [] [] rfl rfl (Ze rfl rfl (Ze rfl rfl (Ze rfl rfl trivial))) trivial
          · intro s5 r2 h hG; refine Zcp 4 rfl ?_; refine YT rfl rfl rfl h (fun _ h => ?_) (fun _ h => ?_)
            · refine Zwp 1 rfl ?_; refine Y2 rfl rfl rfl ?_; refine W.len rfl ?_; refine Y2 rfl rfl rfl ?_; refine W.chk rfl (by decide) ?_; refine Zwp 3 rfl ?_; refine YF rfl rfl rfl h (fun _ h => ?_) (fun _ h => ?_)
              · refine Zpb 8 rfl ?_; cases h; cases hG; exact ⟨rfl, trivial⟩
              · refine Zwp 1 rfl ?_; refine Y2 rfl rfl rfl ?_; refine W.len rfl ?_; refine Zpb 7 rfl ?_; cases h; cases hG; exact ⟨rfl, trivial⟩
            · refine Zpb 13 rfl ?_; cases h; cases hG; exact ⟨rfl, trivial⟩
end Go.Proofs.Ytomfmjejoocmmaa
