/-
Running code on constants: an input is taken (0).
-/
import Derived.Test.YtnegekppaoedgaaGreatDoorQ11
set_option linter.all false
namespace Go.Proofs.YtnegekppaoedgaaGreatDoor
namespace Ci
open Go.RowKit Go.Shelf
variable [fE]
def WI:List (Nat×CV):= []
theorem WJ:isArg (au false (aU WI))=true:=by kernel_rfl
def aiA:List (Nat×CV):= [(1,.u 901)]
theorem aiB:isArg (au true (aU aiA))=true:=by kernel_rfl
def QU:List (Nat×CV):= [(0,i 0),(1,i 0),(5,.u 3005)]
theorem QV:isArg (au true (aU QU))=true:=by kernel_rfl
def ac6:List (Nat×CV):= [(0,i 1),(1,.u 1001)]
theorem alb:isOk (au true (aU ac6))=true:=by kernel_rfl
def WL:List (Nat×CV):= [(0,i 2),(1,i 0),(15,.u 1315),(16,.u 416)]
theorem ahc:isOk (au true (aU WL))=true:=by kernel_rfl
def WM:List (Nat×CV):= [(0,i 2),(1,i 0),(16,.u 3116)]
theorem ahd:isOk (au true (aU WM))=true:=by kernel_rfl
def WO:List (Nat×CV):= [(0,i 2),(1,i 1),(15,.u 1315),(16,.u 516)]
theorem ahe:isOk (au true (aU WO))=true:=by kernel_rfl
def WQ:List (Nat×CV):= [(0,i 2),(1,i 1),(16,.u 3216)]
theorem ahf:isOk (au true (aU WQ))=true:=by kernel_rfl
def JA:List (Nat×CV):= [(0,i 3),(1,i 0),(20,i 0),(21,.u 1421)]
theorem Yr:isOk (au true (aU JA))=true:=by kernel_rfl
def JB:List (Nat×CV):= [(0,i 3),(1,i 0),(20,i 0),(21,.u 1521),(22,.u 1422)]
theorem Yt:isOk (au true (aU JB))=true:=by kernel_rfl
def JC:List (Nat×CV):= [(0,i 3),(1,i 0),(20,i 0),(21,.u 1521),(22,.u 1622)]
theorem Yu:isOk (au true (aU JC))=true:=by kernel_rfl
def Fp:List (Nat×CV):= [(0,i 3),(1,i 0),(20,i 0),(21,i 0),(22,i 0)]
theorem TT:isOk (au true (aU Fp))=true:=by kernel_rfl
end Ci
namespace Ci
open Go.RowKit Go.Shelf
variable [fE]
def Fq:List (Nat×CV):= [(0,i 3),(1,i 0),(20,i 0),(21,i 1),(22,i 0)]
theorem TU:isOk (au true (aU Fq))=true:=by kernel_rfl
def Fv:List (Nat×CV):= [(0,i 3),(1,i 0),(20,i 0),(21,i 2),(22,i 0)]
theorem TV:isOk (au true (aU Fv))=true:=by kernel_rfl
def JD:List (Nat×CV):= [(0,i 3),(1,i 0),(20,i 1),(21,.u 1421)]
theorem Yv:isOk (au true (aU JD))=true:=by kernel_rfl
def JE:List (Nat×CV):= [(0,i 3),(1,i 0),(20,i 1),(21,.u 1521),(22,.u 1422)]
theorem Yw:isOk (au true (aU JE))=true:=by kernel_rfl
def JF:List (Nat×CV):= [(0,i 3),(1,i 0),(20,i 1),(21,.u 1521),(22,.u 1622)]
theorem Yx:isOk (au true (aU JF))=true:=by kernel_rfl
def Fz:List (Nat×CV):= [(0,i 3),(1,i 0),(20,i 1),(21,i 0),(22,i 0)]
theorem TW:isOk (au true (aU Fz))=true:=by kernel_rfl
def FB:List (Nat×CV):= [(0,i 3),(1,i 0),(20,i 1),(21,i 1),(22,i 0)]
theorem TY:isOk (au true (aU FB))=true:=by kernel_rfl
def FC:List (Nat×CV):= [(0,i 3),(1,i 0),(20,i 1),(21,i 2),(22,i 0)]
theorem Ua:isOk (au true (aU FC))=true:=by kernel_rfl
def JG:List (Nat×CV):= [(0,i 3),(1,i 0),(20,i 2),(21,.u 1421)]
theorem Yy:isOk (au true (aU JG))=true:=by kernel_rfl
def JH:List (Nat×CV):= [(0,i 3),(1,i 0),(20,i 2),(21,.u 1521),(22,.u 1422)]
theorem Yz:isOk (au true (aU JH))=true:=by kernel_rfl
def FD:List (Nat×CV):= [(0,i 3),(1,i 0),(20,i 2),(21,i 0),(22,i 0)]
theorem Ub:isOk (au true (aU FD))=true:=by kernel_rfl
def FH:List (Nat×CV):= [(0,i 3),(1,i 0),(20,i 2),(21,i 0),(22,i 1)]
theorem Uc:isOk (au true (aU FH))=true:=by kernel_rfl
end Ci
namespace Ci
open Go.RowKit Go.Shelf
variable [fE]
def FI:List (Nat×CV):= [(0,i 3),(1,i 0),(20,i 2),(21,i 0),(22,i 2)]
theorem Ud:isOk (au true (aU FI))=true:=by kernel_rfl
def FK:List (Nat×CV):= [(0,i 3),(1,i 0),(20,i 2),(21,i 1),(22,i 0)]
theorem Ue:isOk (au true (aU FK))=true:=by kernel_rfl
def FM:List (Nat×CV):= [(0,i 3),(1,i 0),(20,i 2),(21,i 1),(22,i 1)]
theorem Uf:isOk (au true (aU FM))=true:=by kernel_rfl
def FN:List (Nat×CV):= [(0,i 3),(1,i 0),(20,i 2),(21,i 1),(22,i 2)]
theorem Ug:isOk (au true (aU FN))=true:=by kernel_rfl
def FP:List (Nat×CV):= [(0,i 3),(1,i 0),(20,i 2),(21,i 2),(22,i 0)]
theorem Uh:isOk (au true (aU FP))=true:=by kernel_rfl
def FQ:List (Nat×CV):= [(0,i 3),(1,i 0),(20,i 2),(21,i 2),(22,i 1)]
theorem Ui:isOk (au true (aU FQ))=true:=by kernel_rfl
def FT:List (Nat×CV):= [(0,i 3),(1,i 0),(20,i 2),(21,i 2),(22,i 2)]
theorem Uj:isOk (au true (aU FT))=true:=by kernel_rfl
def JI:List (Nat×CV):= [(0,i 3),(1,i 0),(20,i 3),(21,.u 1421)]
theorem YA:isOk (au true (aU JI))=true:=by kernel_rfl
def JJ:List (Nat×CV):= [(0,i 3),(1,i 0),(20,i 3),(21,.u 1521),(22,.u 1422)]
theorem YB:isOk (au true (aU JJ))=true:=by kernel_rfl
def FU:List (Nat×CV):= [(0,i 3),(1,i 0),(20,i 3),(21,i 0),(22,i 0)]
theorem Uk:isOk (au true (aU FU))=true:=by kernel_rfl
def FV:List (Nat×CV):= [(0,i 3),(1,i 0),(20,i 3),(21,i 0),(22,i 1)]
theorem Ul:isOk (au true (aU FV))=true:=by kernel_rfl
def FW:List (Nat×CV):= [(0,i 3),(1,i 0),(20,i 3),(21,i 0),(22,i 2)]
theorem Um:isOk (au true (aU FW))=true:=by kernel_rfl
end Ci
namespace Ci
open Go.RowKit Go.Shelf
variable [fE]
def FX:List (Nat×CV):= [(0,i 3),(1,i 0),(20,i 3),(21,i 1),(22,i 0)]
theorem Un:isOk (au true (aU FX))=true:=by kernel_rfl
def FY:List (Nat×CV):= [(0,i 3),(1,i 0),(20,i 3),(21,i 1),(22,i 1)]
theorem Uo:isOk (au true (aU FY))=true:=by kernel_rfl
def FZ:List (Nat×CV):= [(0,i 3),(1,i 0),(20,i 3),(21,i 1),(22,i 2)]
theorem Ur:isOk (au true (aU FZ))=true:=by kernel_rfl
def F5:List (Nat×CV):= [(0,i 3),(1,i 0),(20,i 3),(21,i 2),(22,i 0)]
theorem Us:isOk (au true (aU F5))=true:=by kernel_rfl
def F6:List (Nat×CV):= [(0,i 3),(1,i 0),(20,i 3),(21,i 2),(22,i 1)]
theorem Ut:isOk (au true (aU F6))=true:=by kernel_rfl
def F7:List (Nat×CV):= [(0,i 3),(1,i 0),(20,i 3),(21,i 2),(22,i 2)]
theorem Uu:isOk (au true (aU F7))=true:=by kernel_rfl
def JK:List (Nat×CV):= [(0,i 3),(1,i 0),(20,i 4),(21,.u 1421)]
theorem YC:isOk (au true (aU JK))=true:=by kernel_rfl
def JL:List (Nat×CV):= [(0,i 3),(1,i 0),(20,i 4),(21,.u 1521),(22,.u 1422)]
theorem YD:isOk (au true (aU JL))=true:=by kernel_rfl
def F8:List (Nat×CV):= [(0,i 3),(1,i 0),(20,i 4),(21,i 0),(22,i 0)]
theorem Uw:isOk (au true (aU F8))=true:=by kernel_rfl
def F9:List (Nat×CV):= [(0,i 3),(1,i 0),(20,i 4),(21,i 0),(22,i 1)]
theorem Ux:isOk (au true (aU F9))=true:=by kernel_rfl
def Gf:List (Nat×CV):= [(0,i 3),(1,i 0),(20,i 4),(21,i 0),(22,i 2)]
theorem Uy:isOk (au true (aU Gf))=true:=by kernel_rfl
def Gg:List (Nat×CV):= [(0,i 3),(1,i 0),(20,i 4),(21,i 1),(22,i 0)]
theorem Uz:isOk (au true (aU Gg))=true:=by kernel_rfl
end Ci
end Go.Proofs.YtnegekppaoedgaaGreatDoor
