/-
The tie of the law's row, out of its parts; the call starts no goroutine.
-/
import Derived.Test.YtnegekppaoedgaaGreatDoorTiA
import Derived.Test.YtnegekppaoedgaaGreatDoorTiB
import Derived.Test.YtnegekppaoedgaaGreatDoorTiC
import Derived.Test.YtnegekppaoedgaaGreatDoorRows
import Derived.JoinedOf
namespace Go.Proofs.YtnegekppaoedgaaGreatDoor
open Go
set_option maxRecDepth 100000
theorem alH:Tryz.prog.laidByTextLater [("math/bits.deBruijn32tab",Rows.laid_math_bits_deBruijn32tab),("math/bits.deBruijn64tab",Rows.laid_math_bits_deBruijn64tab),("internal/strconv.uint64pow10",Rows.laid_internal_strconv_uint64pow10),("strconv.ErrRange",Rows.laid_strconv_ErrRange),("strconv.ErrSyntax",Rows.laid_strconv_ErrSyntax)] [.data,.data,.data,.sentinel,.sentinel] true:=Program.laidByTextLater_by_one 62 8 65 aoW aoX aoY aoZ ao0 asH asI
theorem OM:Rows.gateReadsRow.laidByTextAt .later Tryz.pinned [.data,.data,.data,.sentinel,.sentinel] true:=OpenClaim.laidByTextAt_later rfl rfl alH ao1
theorem YU {P:Program} (h:P.funcs.toList.any Func.goes=false) (f:FuncId):P.goes f=false:=by
 have h1:∀g:Nat,((P.funcs[g]?).any Func.goes)=false:=fun g=> by
  cases hq:P.funcs[g]? with
  | none=> rfl
  | some fn=>
   have hm:fn∈P.funcs.toList:=Array.mem_toList_iff.2 (Array.mem_of_getElem? hq)
   have:=List.any_eq_false.1 h fn hm
   show Func.goes fn=false
   exact Bool.eq_false_iff.2 this
 have h2:P.funcs.any Func.goes=false:=by
  rw [←Array.any_toList]
  exact h
 unfold Program.goes
 rw [h2,Bool.and_false,Bool.or_false]
 exact List.any_eq_false.2 fun g _=> by rw [h1 g];decide
theorem Rn {P:Program} (h:P.funcs.toList.any Func.goes=false) (c:OpenClaim) (hs:c.start= .entering):c.goesBy P=false:=by
 unfold OpenClaim.goesBy Program.goesAt Program.goesFrom
 rw [hs]
 cases P.funcNamed c.func with
 | none=> rfl
 | some f=>
  show (P.goes f || false)=false
  rw [YU h f]
  rfl
theorem asJ:Tryz.prog.funcs.toList.any Func.goes=false:=by kernel_rfl
theorem ajv:Rows.gateReadsRow.goesBy Tryz.prog=false:=Rn asJ _ rfl
def jd1 (s:ChangeSpec) (c:OpenClaim):Bool:=c.wf (OpenSpec.ofChange s)
def jd2 (P:Program):Bool:=laidOutB P
def jd3 (P:Program):Bool:=mapsRowed P
def jd4 (P:Program) (fn:Func):Bool:=fn.params.all (P.readableRec ·)
def jd5 (P:Program) (s:ChangeSpec) (c:OpenClaim):Bool:=namedTie P c.named s.vars
def jd6 (c:OpenClaim):Bool:=(c.stops== [])
def jd7 (P:Program):Bool:=(P.stops== [])
def jd8 (c:OpenClaim):Bool:=(c.knobs== [])
def jd9 (P:Program):Bool:=(P.stopKnobs== [])
def amE (P:Program) (f:FuncId) (c:OpenClaim):Bool:=(c.inPlace==P.inPlace f)
def amF (P:Program) (f:FuncId) (c:OpenClaim):Bool:=(c.unfollowed==P.unfollowed f)
def amG (P:Program) (f:FuncId) (c:OpenClaim):Bool:=(c.recurses==P.recurses f)
def amH (P:Program) (f:FuncId) (c:OpenClaim):Bool:=(c.named==P.varsNamed f)
def amI (P:Program) (fn:Func) (s:ChangeSpec) (c:OpenClaim):Bool:=(c.maps==(fn.params.toList ++ s.plain.varTypes P).any (P.mapsRec ·))
def amJ (P:Program) (fn:Func) (s:ChangeSpec) (c:OpenClaim):Bool:=(c.ifaces==(fn.params.toList ++ s.plain.varTypes P).any (P.ifacesRec ·))
def amK (P:Program) (fn:Func) (c:OpenClaim):Bool:=(c.mapsOut==P.mapsAmong fn.resultTypes.toList)
def amL (P:Program) (fn:Func) (s:ChangeSpec) (c:OpenClaim):Bool:=(c.loops==(fn.params.toList ++ s.plain.varTypes P).any (P.loopsFrom ·))
def amM (P:Program) (fn:Func) (s:ChangeSpec) (c:OpenClaim):Bool:=(c.wideKeys==(fn.params.toList ++ s.plain.varTypes P ++ fn.resultTypes.toList).any (P.wideKeysFrom ·))
def amN (P:Program) (s:ChangeSpec):Bool:=s.vars.all (P.varReadable ·)
def amO (P:Program) (fn:Func):Bool:=fn.resultTypes.all (fun t=> P.readableRec t && decide (t < P.types.size))
def amP (P:Program) (fn:Func) (c:OpenClaim):Bool:=(c.ifacesOut==fn.resultTypes.toList.any (P.ifacesRec ·))
def amQ (P:Program) (fn:Func) (c:OpenClaim):Bool:=(c.loopsOut==fn.resultTypes.toList.any (P.loopsFrom ·))
def amR (P:Program) (c:OpenClaim):Bool:=(c.plainKeys==P.plainKeys)
def amS (c:OpenClaim):Bool:=c.shortTexts.isNone
def amT (P:Program):Bool:=P.stopsHeard
def amU (P:Program):Bool:=P.mayEnter
def amV (P:Program) (c:OpenClaim):Bool:=(c.lifted==P.liftsFinal)
def amW (P:Program) (c:OpenClaim):Bool:=(P.make==some c.make)
def amX (P:Program) (fn:Func) (c:OpenClaim):Bool:=(c.kinds==(if c.domain.isEmpty then [] else fn.params.toList.map fun t=> match P.underlying t with | some (.int k)=> some k | _=> none))
def amY (c:OpenClaim):Bool:=(c.pinned==c.pinnedBy)
def amZ (P:Program) (fn:Func) (s:ChangeSpec) (c:OpenClaim):Bool:=(c.veiled==(fn.params.toList ++ s.plain.varTypes P ++ fn.resultTypes.toList).any (P.veiledRec ·))
def am0 (P:Program) (fn:Func) (s:ChangeSpec) (c:OpenClaim):Bool:=c.veiledFits P fn.params.toList (fn.params.toList ++ s.plain.varTypes P ++ fn.resultTypes.toList)
theorem jO {a b:Bool} (h:a=true) (k:b=true):(a && b)=true:=by rw [h,k];rfl
theorem aaB {P:Program} {f:FuncId} {fn:Func} {s:ChangeSpec} {c:OpenClaim} (h1:jd1 s c=true) (h2:jd2 P=true) (h3:jd3 P=true) (h4:jd4 P fn=true) (h5:jd5 P s c=true) (h6:jd6 c=true) (h7:jd7 P=true) (h8:jd8 c=true) (h9:jd9 P=true) (h10:amE P f c=true) (h11:amF P f c=true) (h12:amG P f c=true) (h13:amH P f c=true) (La:amI P fn s c=true) (h15:amJ P fn s c=true) (h16:amK P fn c=true) (h17:amL P fn s c=true) (h18:amM P fn s c=true) (h19:amN P s=true) (h20:amO P fn=true) (h21:amP P fn c=true) (h22:amQ P fn c=true) (h23:amR P c=true) (h24:amS c=true) (h25:amT P=true) (h26:amU P=true) (h27:amV P c=true) (h28:amW P c=true) (h29:amX P fn c=true) (h30:amY c=true) (h31:amZ P fn s c=true) (h32:am0 P fn s c=true):joinedFacts P f fn s c=true:=
 jO (jO (jO (jO (jO (jO (jO (jO (jO (jO (jO (jO (jO (jO (jO (jO (jO (jO (jO (jO (jO (jO (jO (jO (jO (jO (jO (jO (jO (jO (jO h1 h2) h3) h4) h5) h6) h7) h8) h9) h10) h11) h12) h13) La) h15) h16) h17) h18) h19) h20) h21) h22) h23) h24) h25) h26) h27) h28) h29) h30) h31) h32
end Go.Proofs.YtnegekppaoedgaaGreatDoor
