/-
Running code on constants: calls of the head, run once, joined.
-/
import Derived.Test.YtmgcnoigihdhpaaGreatDoorCW0
import Derived.Test.YtmgcnoigihdhpaaGreatDoorCW1
import Derived.Test.YtmgcnoigihdhpaaGreatDoorCW2
import Derived.Test.YtmgcnoigihdhpaaGreatDoorCW3
import Derived.Test.YtmgcnoigihdhpaaGreatDoorCW4
import Derived.Test.YtmgcnoigihdhpaaGreatDoorCW5
import Derived.Test.YtmgcnoigihdhpaaGreatDoorCW6
namespace Go.Proofs.YtmgcnoigihdhpaaGreatDoor.Ci
open Go.RowKit Go.Shelf
noncomputable def cuts:List MemoB:= [cut0,cut1,cut2,cut3,cut4,cut5,cut6,cut7,cut8,cut9,cut10]
theorem cuts_ok:∀m∈cuts,m.Ok Tryz.prog GB:=by
 intro m hm
 simp only [cuts,List.mem_cons,List.not_mem_nil,or_false] at hm
 rcases hm with rfl | rfl | rfl | rfl | rfl | rfl | rfl | rfl | rfl | rfl | rfl
 ·exact cut0_ok
 ·exact cut1_ok
 ·exact cut2_ok
 ·exact cut3_ok
 ·exact cut4_ok
 ·exact cut5_ok
 ·exact cut6_ok
 ·exact cut7_ok
 ·exact cut8_ok
 ·exact cut9_ok
 ·exact cut10_ok
theorem hasGB (w0 b1:Base) (w:World) (h:GB w0) (hb:BelowF w0 w) (e:b1.w=w) (hF:∀b,w0.F b→b1.F b):GB b1:=⟨by rw [e];exact h.keep hb,hF _ h.2.1,hF _ h.2.2⟩
noncomputable def ext2:Ext:=orX (onlyX (fun f=> (Bool.or (Nat.beq f 34) (Nat.beq f 37))) (xB cuts)) ext1
theorem ext2_ok:ExtOk Tryz.prog GB ext2:=orX_ok (onlyX_ok (xB_ok hasGB cuts_ok)) ext1_ok
end Go.Proofs.YtmgcnoigihdhpaaGreatDoor.Ci
