/-
A law whose row lists package-level variables: the wrap, and that a world that fits holds the tables.
-/
import Derived.Test.YtnegekppaoedgaaGreatDoorQ13
import Derived.LaidMore
import Derived.Stop.Joined
import Derived.Stop.LaidErr
import Derived.Shelf.Vars
import Derived.Lib.LaidTab
set_option linter.all false
namespace Go.Proofs.YtnegekppaoedgaaGreatDoor
open Go.ChangeShapes Go.WideShapes Go.ChangeAt Go.RowKit
theorem Bj {H:Type} {enc:TypeId×Value→H} {a:Assume} {C:Checked} {os:Os} {f:FuncId} {fn:Func} {s:ChangeSpec} {conds:List PathCond} {apart fresh handsOn again:Bool} {X:World→Array Value→Prop}
  (hX:∀(w w':World) (args:Array Value),w.heap=w'.heap→X w args→X w' args)
  (own:ownKnob C.prog.godebug=none) (started:os.Started) (noInit:C.prog.inits.idxOf? f=none) (hfn:C.prog.funcs[f]? =some fn)
  (witness:∃(w:World) (tape:Tape) (i:Input),w.os=os∧(w.forCall tape i).Shaped C.prog∧i.vars= []∧Input.okWide C.prog (w.forCall tape i) .any w.heap.size f i∧
   ((s.pre enc C.prog fn conds apart (w.forCall tape i).memory i.args∧X (w.forCall tape i).memory i.args)∧sizedMet enc C.prog fn (OpenSpec.ofChange s) apart (w.forCall tape i).memory i.args)∧a.holds C.prog (lone (Frame.enter C.prog f i.args .normal) [] (w.forCall tape i)))
  (contract:∀(W:World) (base:Nat) (args:Array Value) (ds gs:List (DataW H)) (before:List MemPlace),
   (∀(j:Nat) t v,fn.params[j]? =some t→args[j]? =some v→Value.okWide C.prog W .any base t v)→
   DataW.Whole enc C.prog fn.params.toList s.vars apart W args.toList ds gs before→
   conds.all (PathCond.test C.prog ⟨fn.params.toList,ds,s.plain.varTypes C.prog,gs⟩)=true→X W args→W.ShapedOpen C.prog→
   Calls C.prog f args W fun e W'=> ∃v,e= .returned v∧s.post enc C.prog fn apart fresh handsOn again W args v W'):
  ReturnsInHanded a C os f .any (fun w args=> (s.pre enc C.prog fn conds apart w args∧X w args)∧sizedMet enc C.prog fn (OpenSpec.ofChange s) apart w args) (s.post enc C.prog fn apart fresh handsOn again):=by
 refine returnsInHanded_of_calls own started noInit witness ?_
 intro w tape i _ hsh _ hok hpre _
 obtain ⟨_,_,_,fn',hfn',_,_,_,_,hval⟩:=hok
 have e:fn'=fn:=Option.some.inj (hfn'.symm.trans hfn)
 subst e
 obtain ⟨⟨⟨ds,gs,before,hw,hc⟩,hx⟩,_⟩:=hpre
 refine (contract (w.forCall tape i) w.heap.size i.args ds gs before hval (DataW.Whole.of_heap (w':=w.forCall tape i) (by rfl) hw) hc (hX _ _ _ (by rfl) hx) hsh).mono fun e W' ⟨v,he,hp⟩=> ?_
 subst he
 exact ChangeSpec.post_blind hp
def OL:List (String×DataW Unit):= [("math/bits.deBruijn32tab",Rows.laid_math_bits_deBruijn32tab),("math/bits.deBruijn64tab",Rows.laid_math_bits_deBruijn64tab),("internal/strconv.uint64pow10",Rows.laid_internal_strconv_uint64pow10),("strconv.ErrRange",Rows.laid_strconv_ErrRange),("strconv.ErrSyntax",Rows.laid_strconv_ErrSyntax)]
theorem door_met (os:Os) (args:Array Value):laidMetH Tryz.prog OL ((World.doorLaid Tryz.prog 400 os).forCall (fun _ _=> 0) ⟨#[],args,[]⟩).memory:=
 laidMetH_of_parts3 (fuel:=8) (laidMet_of_run' 8 (by kernel_rfl) (by kernel_rfl)) (by kernel_rfl) (by kernel_rfl)
theorem inv_of {W:World} (h:laidMetH Tryz.prog OL W) (hsh:W.ShapedOpen Tryz.prog):Inv W:=by
 rw [MakeChecks.laidMetH_plain _ _ _ (by kernel_rfl)] at h
 have e:(Rows.laid_internal_strconv_uint64pow10:DataW Unit)=Lib.tabData .u64 Lib.pow10Tab:=by kernel_rfl
 have h3:laidMet Tryz.prog (("internal/strconv.uint64pow10",Rows.laid_internal_strconv_uint64pow10):: [("strconv.ErrRange",Rows.laid_strconv_ErrRange),("strconv.ErrSyntax",Rows.laid_strconv_ErrSyntax)]) W:=(show laidMet Tryz.prog (_::_::("internal/strconv.uint64pow10",Rows.laid_internal_strconv_uint64pow10):: [("strconv.ErrRange",Rows.laid_strconv_ErrRange),("strconv.ErrSyntax",Rows.laid_strconv_ErrSyntax)]) W from h).tail.tail
 rw [e] at h3
 have hg:Tryz.prog.globalNamed "internal/strconv.uint64pow10" =some 0:=by kernel_rfl
 have h0:=Lib.tabIs_of_head (g:=0) (t:=390) (e:=327) (n:=20) hg (by kernel_rfl) Tryz.underlying390 Tryz.underlying327 (by kernel_rfl) (by kernel_rfl) h3
 obtain ⟨m,hm⟩:=cell_of_shapedOpen_int (P:=Tryz.prog) (g:=1) (t:=3) (zero:= #[.int .i64 0]) hsh (of_decide_eq_true (by kernel_rfl)) (by kernel_rfl) rfl (by kernel_rfl) (by kernel_rfl) Tryz.underlying3
 have hgR:Tryz.prog.globalNamed "strconv.ErrRange" =some 3:=by kernel_rfl
 have hgS:Tryz.prog.globalNamed "strconv.ErrSyntax" =some 2:=by kernel_rfl
 have hty:∀u,Tryz.prog.typeName? 3 u=some "*errors.errorString" →u=441:=by
  intro u hu
  exact typeName_ptr_named (nm:= "errors.errorString") (by rw [show "*" ++ "errors.errorString" = "*errors.errorString" by decide];kernel_rfl) (by kernel_rfl) (by decide) u (by rw [show "*" ++ "errors.errorString" = "*errors.errorString" by decide];exact hu)
 obtain ⟨aR,sR,hR,_⟩:=laid_sentinel (g:=3) (ti:=116) (tp:=441) (te:=443) (ts:=9) h3.tail hgR (by kernel_rfl) Tryz.underlying116 hty Tryz.underlying441 Tryz.underlying443 rfl rfl Tryz.underlying9 (by kernel_rfl) (by kernel_rfl)
 obtain ⟨aS,sS,hS,_⟩:=laid_sentinel (g:=2) (ti:=116) (tp:=441) (te:=443) (ts:=9) h3.tail.tail hgS (by kernel_rfl) Tryz.underlying116 hty Tryz.underlying441 Tryz.underlying443 rfl rfl Tryz.underlying9 (by kernel_rfl) (by kernel_rfl)
 unfold Lib.TabIs World.var? at h0
 rw [hg,Option.bind_some] at h0
 have a0:∃T s,W.heap[0]? =some (.cells (Lib.pow10Tab.map fun z=> Value.int .u64 z).toArray T s):=by
  split at h0
  ·rename_i cs T s hh
   injection h0 with h0
   exact ⟨T,s,by rw [hh,h0]⟩
  ·cases h0
 have a1:∃cs T s,W.heap[1]? =some (.cells cs T s)∧cs[0]? =some (.int .i64 m):=by
  unfold World.cell? at hm
  split at hm
  ·rename_i cs T s hh
   exact ⟨cs,T,s,hh,by simpa using hm⟩
  ·cases hm
 have av:∀(n:String) (g:Nat) (p:Addr),Tryz.prog.globalNamed n=some g→W.var? Tryz.prog n=some #[.iface 441 (.pointer (some p))]→∃cs T s t q,W.heap[g]? =some (.cells cs T s)∧cs[0]? =some (.iface t q):=fun n g p hn hv=> by
  unfold World.var? at hv
  rw [hn,Option.bind_some] at hv
  split at hv
  ·rename_i cs T s hh
   injection hv with hv
   subst hv
   exact ⟨_,T,s,_,_,hh,rfl⟩
  ·cases hv
 have a2:=av _ 2 aS hgS hS
 have a3:=av _ 3 aR hgR hR
 intro q hq
 unfold tabs at hq
 simp only [List.mem_cons,List.not_mem_nil,or_false] at hq
 rcases hq with rfl | rfl | rfl | rfl
 ·obtain ⟨T,s,hh⟩:=a0
  exact ⟨_,hh,T,s,rfl⟩
 ·obtain ⟨cs,T,s,hh,hc⟩:=a1
  exact ⟨_,hh,cs,T,s,m,rfl,hc⟩
 ·obtain ⟨cs,T,s,t,p,hh,hc⟩:=a2
  exact ⟨_,hh,cs,T,s,t,p,rfl,hc⟩
 ·obtain ⟨cs,T,s,t,p,hh,hc⟩:=a3
  exact ⟨_,hh,cs,T,s,t,p,rfl,hc⟩
end Go.Proofs.YtnegekppaoedgaaGreatDoor
