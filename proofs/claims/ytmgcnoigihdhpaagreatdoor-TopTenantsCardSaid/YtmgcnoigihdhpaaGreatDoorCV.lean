/-
Running code on constants: what the texts of two networks are, and what their profiles can do, run once.
-/
import Derived.Test.YtmgcnoigihdhpaaGreatDoorQ18
namespace Go.Proofs.YtmgcnoigihdhpaaGreatDoor.Ci
open Go.RowKit Go.Shelf
abbrev i (n:Nat):CV:= .v (.int .i64 (.ofNat n))
abbrev j (n:Nat):CV:= .v (.int .i64 (.negSucc n))
abbrev o:CV:= .v (.slice none 0 0)
abbrev ff:CV:= .v (.bool false)
abbrev tt:CV:= .v (.bool true)
noncomputable def memo0:Memo:=⟨112,[.t [110,101,116,119,111,114,107,32,109,97,105,108,32,59,32,101,100,105,116,32,121,101,115,32,59,32,100,101,108,101,116,101,32,121,101,115,32,59,32,114,101,97,99,116,32,121,101,115,32,59,32,116,104,114,101,97,100,32,116,114,101,101,32,59,32,113,117,111,116,101,32,121,101,115,32,59,32,109,101,110,116,105,111,110,32,121,101,115,32,59,32,115,105,122,101,32,54,48,32,112,97,114,116,115,32,49,32,59,32,106,111,105,110,32,108,105,110,107,32,59,32,104,105,115,116,111,114,121,32,97,108,108,32,59,32,114,101,109,111,118,101,32,110,111,119,32,59,32,114,101,99,101,105,112,116,115,32,115,101,110,116,32,59,32,114,97,116,101,32,57,32,100,111,119,110,32,48,32,111,102,32,49,32,59]],.tup [.agg [.t [109,97,105,108],i 2,i 0,i 2,tt,i 2,tt,tt,i 60,i 1,i 0,i 0,o,i 1,i 1,i 0,i 1,ff,i 9,i 0,i 1,i 0],i 0,i 0],[],289⟩
theorem memo0_cl:memo0.closed=true:=by decide
theorem memo0_run:outcome (rc Tryz.prog (extL fun _ _ _ _=> none) 100000 60 memo0.f memo0.args .e 0)=some (memo0.v,memo0.L,memo0.n):=by kernel_rfl
theorem memo0_ok:memo0.Ok Tryz.prog GB:=Memo.of_run mixed (extG noneExt) memo0 memo0_cl memo0_run
noncomputable def memo1:Memo:=⟨114,[.agg [.t [109,97,105,108],i 2,i 0,i 2,tt,i 2,tt,tt,i 60,i 1,i 0,i 0,o,i 1,i 1,i 0,i 1,ff,i 9,i 0,i 1,i 0]],.tup [.s 28 0 9 (.kn 9),i 0],[(28,.cl (.of 331) [i 0,i 0,i 4,i 0,i 0,i 0,i 0,i 0,i 0,i 0,i 0,i 0,i 0,i 0,i 0,i 0,i 2,i 2])],57⟩
theorem memo1_cl:memo1.closed=true:=by decide
theorem memo1_run:outcome (rc Tryz.prog (extL fun _ _ _ _=> none) 100000 60 memo1.f memo1.args .e 0)=some (memo1.v,memo1.L,memo1.n):=by kernel_rfl
theorem memo1_ok:memo1.Ok Tryz.prog GB:=Memo.of_run mixed (extG noneExt) memo1 memo1_cl memo1_run
noncomputable def memo2:Memo:=⟨112,[.t [110,101,116,119,111,114,107,32,114,111,111,109,32,59,32,101,100,105,116,32,121,101,115,32,59,32,100,101,108,101,116,101,32,121,101,115,32,59,32,114,101,97,99,116,32,121,101,115,32,59,32,116,104,114,101,97,100,32,116,114,101,101,32,59,32,113,117,111,116,101,32,121,101,115,32,59,32,109,101,110,116,105,111,110,32,121,101,115,32,59,32,115,105,122,101,32,54,48,32,112,97,114,116,115,32,49,32,59,32,106,111,105,110,32,108,105,110,107,32,59,32,104,105,115,116,111,114,121,32,97,108,108,32,59,32,114,101,109,111,118,101,32,110,111,119,32,59,32,114,101,99,101,105,112,116,115,32,115,101,110,116,32,59,32,114,97,116,101,32,57,32,100,111,119,110,32,48,32,111,102,32,49,32,59]],.tup [.agg [.t [114,111,111,109],i 2,i 0,i 2,tt,i 2,tt,tt,i 60,i 1,i 0,i 0,o,i 1,i 1,i 0,i 1,ff,i 9,i 0,i 1,i 0],i 0,i 0],[],289⟩
theorem memo2_cl:memo2.closed=true:=by decide
theorem memo2_run:outcome (rc Tryz.prog (extL fun _ _ _ _=> none) 100000 60 memo2.f memo2.args .e 0)=some (memo2.v,memo2.L,memo2.n):=by kernel_rfl
theorem memo2_ok:memo2.Ok Tryz.prog GB:=Memo.of_run mixed (extG noneExt) memo2 memo2_cl memo2_run
noncomputable def memo3:Memo:=⟨114,[.agg [.t [114,111,111,109],i 2,i 0,i 2,tt,i 2,tt,tt,i 60,i 1,i 0,i 0,o,i 1,i 1,i 0,i 1,ff,i 9,i 0,i 1,i 0]],.tup [.s 28 0 9 (.kn 9),i 0],[(28,.cl (.of 331) [i 0,i 0,i 4,i 0,i 0,i 0,i 0,i 0,i 0,i 0,i 0,i 0,i 0,i 0,i 0,i 0,i 2,i 2])],57⟩
theorem memo3_cl:memo3.closed=true:=by decide
theorem memo3_run:outcome (rc Tryz.prog (extL fun _ _ _ _=> none) 100000 60 memo3.f memo3.args .e 0)=some (memo3.v,memo3.L,memo3.n):=by kernel_rfl
theorem memo3_ok:memo3.Ok Tryz.prog GB:=Memo.of_run mixed (extG noneExt) memo3 memo3_cl memo3_run
noncomputable def memos:List Memo:= [memo0,memo1,memo2,memo3]
theorem memos_ok:∀m∈memos,m.Ok Tryz.prog GB:=by
 intro m hm
 simp only [memos,List.mem_cons,List.not_mem_nil,or_false] at hm
 rcases hm with rfl | rfl | rfl | rfl
 ·exact memo0_ok
 ·exact memo1_ok
 ·exact memo2_ok
 ·exact memo3_ok
noncomputable def onlyX (c:FuncId→Bool) (x:Ext):Ext:=fun f args H nx=> ifB (c f) (x f args H nx) none
theorem onlyX_ok {P:Program} {G:Base→Prop} {c:FuncId→Bool} {x:Ext} (hx:ExtOk P G x):ExtOk P G (onlyX c x):=fun f args H nx v H' nx' h=> by
 rcases ifB_cases (show ifB (c f) (x f args H nx) none=_ from h) with ⟨_,h1⟩ | ⟨_,h1⟩
 ·exact hx f args H nx v H' nx' h1
 ·cases h1
noncomputable def ext1:Ext:=orX (onlyX (fun f=> (Bool.or (Nat.beq f 112) (Nat.beq f 114))) (xM memos)) (extL fun _ _ _ _=> none)
theorem ext1_ok:ExtOk Tryz.prog GB ext1:=orX_ok (onlyX_ok (xM_ok (fun _ _ h hb=> GB.of (h.keep hb)) memos_ok)) (extG noneExt)
end Go.Proofs.YtmgcnoigihdhpaaGreatDoor.Ci
