/-
The tie of the law's row, out of its parts; the call starts no goroutine.
-/
import Derived.Test.YtmgcnoigihdhpaaGreatDoorTiA
import Derived.Test.YtmgcnoigihdhpaaGreatDoorTiB
import Derived.Test.YtmgcnoigihdhpaaGreatDoorTiC
import Derived.Test.YtmgcnoigihdhpaaGreatDoorRows
import Derived.JoinedOf
namespace Go.Proofs.YtmgcnoigihdhpaaGreatDoor
open Go
set_option maxRecDepth 100000
theorem ownTie:Tryz.prog.laidByTextLater [("math/bits.deBruijn32tab",Rows.laid_math_bits_deBruijn32tab),("math/bits.deBruijn64tab",Rows.laid_math_bits_deBruijn64tab),("internal/strconv.uint64pow10",Rows.laid_internal_strconv_uint64pow10),("strconv.ErrRange",Rows.laid_strconv_ErrRange),("strconv.ErrSyntax",Rows.laid_strconv_ErrSyntax)] [.data,.data,.data,.sentinel,.sentinel] true:=Program.laidByTextLater_by_one 62 8 65 tieA1 tieA2 tieA3 tieA4 tieA5 tieB tieC
theorem own_row_tie:Rows.topTenantsRow.laidByTextAt .later Tryz.pinned [.data,.data,.data,.sentinel,.sentinel] true:=OpenClaim.laidByTextAt_later rfl rfl ownTie tieA6
theorem goes_none {P:Program} (h:P.funcs.toList.any Func.goes=false) (f:FuncId):P.goes f=false:=by
 have h1:∀g:Nat,((P.funcs[g]?).any Func.goes)=false:=fun g=> by
  cases hq:P.funcs[g]? with
  | none=> rfl
  | some fn=>
   have hm:fn∈P.funcs.toList:=Array.mem_toList_iff.2 (Array.mem_of_getElem? hq)
   have:=List.any_eq_false.1 h fn hm
   show Func.goes fn=false
   exact Bool.eq_false_iff.2 this
 have h2:P.funcs.any Func.goes=false:=by
  rw [←Array.any_toList]
  exact h
 unfold Program.goes
 rw [h2,Bool.and_false,Bool.or_false]
 exact List.any_eq_false.2 fun g _=> by rw [h1 g];decide
theorem goesBy_none {P:Program} (h:P.funcs.toList.any Func.goes=false) (c:OpenClaim) (hs:c.start= .entering):c.goesBy P=false:=by
 unfold OpenClaim.goesBy Program.goesAt Program.goesFrom
 rw [hs]
 cases P.funcNamed c.func with
 | none=> rfl
 | some f=>
  show (P.goes f || false)=false
  rw [goes_none h f]
  rfl
theorem noGo:Tryz.prog.funcs.toList.any Func.goes=false:=by kernel_rfl
theorem goesNo:Rows.topTenantsRow.goesBy Tryz.prog=false:=goesBy_none noGo _ rfl
def jd1 (s:ChangeSpec) (c:OpenClaim):Bool:=c.wf (OpenSpec.ofChange s)
def jd2 (P:Program):Bool:=laidOutB P
def jd3 (P:Program):Bool:=mapsRowed P
def jd4 (P:Program) (fn:Func):Bool:=fn.params.all (P.readableRec ·)
def jd5 (P:Program) (s:ChangeSpec) (c:OpenClaim):Bool:=namedTie P c.named s.vars
def jd6 (c:OpenClaim):Bool:=(c.stops== [])
def jd7 (P:Program):Bool:=(P.stops== [])
def jd8 (c:OpenClaim):Bool:=(c.knobs== [])
def jd9 (P:Program):Bool:=(P.stopKnobs== [])
def jd10 (P:Program) (f:FuncId) (c:OpenClaim):Bool:=(c.inPlace==P.inPlace f)
def jd11 (P:Program) (f:FuncId) (c:OpenClaim):Bool:=(c.unfollowed==P.unfollowed f)
def jd12 (P:Program) (f:FuncId) (c:OpenClaim):Bool:=(c.recurses==P.recurses f)
def jd13 (P:Program) (f:FuncId) (c:OpenClaim):Bool:=(c.named==P.varsNamed f)
def jd14 (P:Program) (fn:Func) (s:ChangeSpec) (c:OpenClaim):Bool:=(c.maps==(fn.params.toList ++ s.plain.varTypes P).any (P.mapsRec ·))
def jd15 (P:Program) (fn:Func) (s:ChangeSpec) (c:OpenClaim):Bool:=(c.ifaces==(fn.params.toList ++ s.plain.varTypes P).any (P.ifacesRec ·))
def jd16 (P:Program) (fn:Func) (c:OpenClaim):Bool:=(c.mapsOut==P.mapsAmong fn.resultTypes.toList)
def jd17 (P:Program) (fn:Func) (s:ChangeSpec) (c:OpenClaim):Bool:=(c.loops==(fn.params.toList ++ s.plain.varTypes P).any (P.loopsFrom ·))
def jd18 (P:Program) (fn:Func) (s:ChangeSpec) (c:OpenClaim):Bool:=(c.wideKeys==(fn.params.toList ++ s.plain.varTypes P ++ fn.resultTypes.toList).any (P.wideKeysFrom ·))
def jd19 (P:Program) (s:ChangeSpec):Bool:=s.vars.all (P.varReadable ·)
def jd20 (P:Program) (fn:Func):Bool:=fn.resultTypes.all (fun t=> P.readableRec t && decide (t < P.types.size))
def jd21 (P:Program) (fn:Func) (c:OpenClaim):Bool:=(c.ifacesOut==fn.resultTypes.toList.any (P.ifacesRec ·))
def jd22 (P:Program) (fn:Func) (c:OpenClaim):Bool:=(c.loopsOut==fn.resultTypes.toList.any (P.loopsFrom ·))
def jd23 (P:Program) (c:OpenClaim):Bool:=(c.plainKeys==P.plainKeys)
def jd24 (c:OpenClaim):Bool:=c.shortTexts.isNone
def jd25 (P:Program):Bool:=P.stopsHeard
def jd26 (P:Program):Bool:=P.mayEnter
def jd27 (P:Program) (c:OpenClaim):Bool:=(c.lifted==P.liftsFinal)
def jd28 (P:Program) (c:OpenClaim):Bool:=(P.make==some c.make)
def jd29 (P:Program) (fn:Func) (c:OpenClaim):Bool:=(c.kinds==(if c.domain.isEmpty then [] else fn.params.toList.map fun t=> match P.underlying t with | some (.int k)=> some k | _=> none))
def jd30 (c:OpenClaim):Bool:=(c.pinned==c.pinnedBy)
def jd31 (P:Program) (fn:Func) (s:ChangeSpec) (c:OpenClaim):Bool:=(c.veiled==(fn.params.toList ++ s.plain.varTypes P ++ fn.resultTypes.toList).any (P.veiledRec ·))
def jd32 (P:Program) (fn:Func) (s:ChangeSpec) (c:OpenClaim):Bool:=c.veiledFits P fn.params.toList (fn.params.toList ++ s.plain.varTypes P ++ fn.resultTypes.toList)
theorem andI {a b:Bool} (h:a=true) (k:b=true):(a && b)=true:=by rw [h,k];rfl
theorem facts_of {P:Program} {f:FuncId} {fn:Func} {s:ChangeSpec} {c:OpenClaim} (h1:jd1 s c=true) (h2:jd2 P=true) (h3:jd3 P=true) (h4:jd4 P fn=true) (h5:jd5 P s c=true) (h6:jd6 c=true) (h7:jd7 P=true) (h8:jd8 c=true) (h9:jd9 P=true) (h10:jd10 P f c=true) (h11:jd11 P f c=true) (h12:jd12 P f c=true) (h13:jd13 P f c=true) (h14:jd14 P fn s c=true) (h15:jd15 P fn s c=true) (h16:jd16 P fn c=true) (h17:jd17 P fn s c=true) (h18:jd18 P fn s c=true) (h19:jd19 P s=true) (h20:jd20 P fn=true) (h21:jd21 P fn c=true) (h22:jd22 P fn c=true) (h23:jd23 P c=true) (h24:jd24 c=true) (h25:jd25 P=true) (h26:jd26 P=true) (h27:jd27 P c=true) (h28:jd28 P c=true) (h29:jd29 P fn c=true) (h30:jd30 c=true) (h31:jd31 P fn s c=true) (h32:jd32 P fn s c=true):joinedFacts P f fn s c=true:=
 andI (andI (andI (andI (andI (andI (andI (andI (andI (andI (andI (andI (andI (andI (andI (andI (andI (andI (andI (andI (andI (andI (andI (andI (andI (andI (andI (andI (andI (andI (andI h1 h2) h3) h4) h5) h6) h7) h8) h9) h10) h11) h12) h13) h14) h15) h16) h17) h18) h19) h20) h21) h22) h23) h24) h25) h26) h27) h28) h29) h30) h31) h32
end Go.Proofs.YtmgcnoigihdhpaaGreatDoor
