/-
Running code on constants: an input is taken (12).
-/
import Derived.Test.YtnegekppaoedgaaGreatDoorQ11
set_option linter.all false
namespace Go.Proofs.YtnegekppaoedgaaGreatDoor
namespace Ci
open Go.RowKit Go.Shelf
variable [fE]
def ZF:List (Nat×CV):= [(0,i 0),(1,i 0),(5,.u 605),(6,.u 106),(7,i 0),(8,.u 808),(9,j 0),(10,j 0),(11,.u 2911),(13,.u 2113),(14,.u 3814)]
theorem ai6:isOk (au true (aU ZF))=true:=by kernel_rfl
def ZE:List (Nat×CV):= [(0,i 0),(1,i 0),(5,.u 605),(6,.u 106),(7,i 0),(8,.u 808),(9,j 0),(10,j 0),(11,.u 2911),(13,.u 2113),(14,.u 3914)]
theorem ai5:isOk (au true (aU ZE))=true:=by kernel_rfl
def aiG:List (Nat×CV):= [(0,i 0),(1,i 0),(5,.u 405),(6,.u 106),(7,i 5),(8,.u 808),(11,j 0)]
theorem aou:isOk (au true (aU aiG))=true:=by kernel_rfl
def WX:List (Nat×CV):= [(0,i 0),(1,i 0),(5,.u 405),(6,.u 106),(7,i 5),(8,.u 808),(11,.u 3011)]
theorem ahm:isOk (au true (aU WX))=true:=by kernel_rfl
def JO:List (Nat×CV):= [(0,i 0),(1,i 0),(5,.u 405),(6,.u 106),(7,i 5),(8,.u 808),(11,.u 511)]
theorem YG:isOk (au true (aU JO))=true:=by kernel_rfl
def QW:List (Nat×CV):= [(0,i 0),(1,i 0),(5,.u 405),(6,.u 106),(7,i 5),(8,.u 808),(11,.u 3311)]
theorem adq:isOk (au true (aU QW))=true:=by kernel_rfl
def QX:List (Nat×CV):= [(0,i 0),(1,i 0),(5,.u 405),(6,.u 106),(7,i 5),(8,.u 808),(11,.u 405)]
theorem adr:isOk (au true (aU QX))=true:=by kernel_rfl
def ahE:List (Nat×CV):= [(0,i 0),(1,i 0),(5,.u 505),(6,.u 106),(7,i 5),(8,.u 808),(11,j 0)]
theorem amd:isOk (au true (aU ahE))=true:=by kernel_rfl
def Vp:List (Nat×CV):= [(0,i 0),(1,i 0),(5,.u 605),(6,.u 106),(7,i 5),(8,.u 808),(11,.u 3011)]
theorem aeJ:isOk (au true (aU Vp))=true:=by kernel_rfl
def Ib:List (Nat×CV):= [(0,i 0),(1,i 0),(5,.u 605),(6,.u 106),(7,i 5),(8,.u 808),(11,.u 411)]
theorem Xk:isOk (au true (aU Ib))=true:=by kernel_rfl
def OI:List (Nat×CV):= [(0,i 0),(1,i 0),(5,.u 605),(6,.u 106),(7,i 5),(8,.u 808),(11,.u 3411)]
theorem aaz:isOk (au true (aU OI))=true:=by kernel_rfl
def OH:List (Nat×CV):= [(0,i 0),(1,i 0),(5,.u 605),(6,.u 106),(7,i 5),(8,.u 808),(11,.u 605)]
theorem aay:isOk (au true (aU OH))=true:=by kernel_rfl
end Ci
namespace Ci
open Go.RowKit Go.Shelf
variable [fE]
def ahF:List (Nat×CV):= [(0,i 0),(1,i 0),(5,i 13),(6,.u 106),(7,i 5),(8,.u 808),(11,.u 2911)]
theorem ame:isOk (au true (aU ahF))=true:=by kernel_rfl
def aov:List (Nat×CV):= [(0,i 0),(1,i 0),(5,.u 405),(6,.u 106),(7,i 6),(8,.u 808)]
theorem arH:isOk (au true (aU aov))=true:=by kernel_rfl
def amg:List (Nat×CV):= [(0,i 0),(1,i 0),(5,.u 605),(6,.u 106),(7,i 6),(8,.u 808)]
theorem apz:isOk (au true (aU amg))=true:=by kernel_rfl
def amf:List (Nat×CV):= [(0,i 0),(1,i 0),(5,i 13),(6,.u 106),(7,i 6),(8,.u 808)]
theorem apy:isOk (au true (aU amf))=true:=by kernel_rfl
def aiH:List (Nat×CV):= [(0,i 0),(1,i 0),(5,.u 405),(6,.u 106),(7,i 7),(8,.u 808),(11,j 0)]
theorem aow:isOk (au true (aU aiH))=true:=by kernel_rfl
def aiI:List (Nat×CV):= [(0,i 0),(1,i 0),(5,.u 405),(6,.u 106),(7,i 9),(8,.u 808),(11,j 0)]
theorem aox:isOk (au true (aU aiI))=true:=by kernel_rfl
def aiJ:List (Nat×CV):= [(0,i 0),(1,i 0),(5,.u 405),(6,.u 106),(7,i 9),(8,.u 808),(11,.u 2911),(12,.u 2512)]
theorem aoy:isOk (au true (aU aiJ))=true:=by kernel_rfl
def ahH:List (Nat×CV):= [(0,i 0),(1,i 0),(5,.u 505),(6,.u 106),(7,i 7),(8,.u 808),(11,j 0)]
theorem amh:isOk (au true (aU ahH))=true:=by kernel_rfl
def ahO:List (Nat×CV):= [(0,i 0),(1,i 0),(5,.u 505),(6,.u 106),(7,i 9),(8,.u 808),(11,j 0)]
theorem amw:isOk (au true (aU ahO))=true:=by kernel_rfl
def ahS:List (Nat×CV):= [(0,i 0),(1,i 0),(5,.u 505),(6,.u 106),(7,i 9),(8,.u 808),(11,.u 2911),(12,.u 2512)]
theorem amD:isOk (au true (aU ahS))=true:=by kernel_rfl
def ahI:List (Nat×CV):= [(0,i 0),(1,i 0),(5,i 13),(6,.u 106),(7,i 7),(8,.u 808),(11,.u 2911)]
theorem ami:isOk (au true (aU ahI))=true:=by kernel_rfl
def ahL:List (Nat×CV):= [(0,i 0),(1,i 0),(5,i 13),(6,.u 106),(7,i 8),(8,.u 808)]
theorem amo:isOk (au true (aU ahL))=true:=by kernel_rfl
end Ci
namespace Ci
open Go.RowKit Go.Shelf
variable [fE]
def ahP:List (Nat×CV):= [(0,i 0),(1,i 0),(5,i 13),(6,.u 106),(7,i 9),(8,.u 808),(11,.u 2911),(12,.u 2412)]
theorem amx:isOk (au true (aU ahP))=true:=by kernel_rfl
def aoz:List (Nat×CV):= [(0,i 0),(1,i 0),(5,i 0),(6,.u 106),(7,i 7),(8,i 0),(11,.u 2911)]
theorem arI:isOk (au true (aU aoz))=true:=by kernel_rfl
def aoA:List (Nat×CV):= [(0,i 0),(1,i 0),(5,i 0),(6,.u 106),(7,i 8),(8,i 0)]
theorem arJ:isOk (au true (aU aoA))=true:=by kernel_rfl
def aoB:List (Nat×CV):= [(0,i 0),(1,i 0),(5,i 0),(6,.u 106),(7,i 9),(8,i 0),(11,.u 2911),(12,.u 2412)]
theorem arK:isOk (au true (aU aoB))=true:=by kernel_rfl
def aiK:List (Nat×CV):= [(0,i 0),(1,i 0),(5,i 0),(6,.u 106),(7,i 7),(8,.u 708),(11,.u 2911)]
theorem aoC:isOk (au true (aU aiK))=true:=by kernel_rfl
def aiL:List (Nat×CV):= [(0,i 0),(1,i 0),(5,i 0),(6,.u 106),(7,i 8),(8,.u 708)]
theorem aoD:isOk (au true (aU aiL))=true:=by kernel_rfl
def aiM:List (Nat×CV):= [(0,i 0),(1,i 0),(5,i 0),(6,.u 106),(7,i 9),(8,.u 708),(11,.u 2911),(12,.u 2412)]
theorem aoE:isOk (au true (aU aiM))=true:=by kernel_rfl
def aoF:List (Nat×CV):= [(0,i 0),(1,i 0),(5,i 12),(6,.u 106),(7,i 7),(8,i 0),(11,.u 2911)]
theorem arL:isOk (au true (aU aoF))=true:=by kernel_rfl
def aoG:List (Nat×CV):= [(0,i 0),(1,i 0),(5,i 12),(6,.u 106),(7,i 8),(8,i 0)]
theorem arM:isOk (au true (aU aoG))=true:=by kernel_rfl
def aoH:List (Nat×CV):= [(0,i 0),(1,i 0),(5,i 12),(6,.u 106),(7,i 9),(8,i 0),(11,.u 2911),(12,.u 2412)]
theorem arN:isOk (au true (aU aoH))=true:=by kernel_rfl
def aiN:List (Nat×CV):= [(0,i 0),(1,i 0),(5,i 12),(6,.u 106),(7,i 7),(8,.u 708),(11,.u 2911)]
theorem aoI:isOk (au true (aU aiN))=true:=by kernel_rfl
def aiO:List (Nat×CV):= [(0,i 0),(1,i 0),(5,i 12),(6,.u 106),(7,i 8),(8,.u 708)]
theorem aoJ:isOk (au true (aU aiO))=true:=by kernel_rfl
end Ci
namespace Ci
open Go.RowKit Go.Shelf
variable [fE]
def aiP:List (Nat×CV):= [(0,i 0),(1,i 0),(5,i 12),(6,.u 106),(7,i 9),(8,.u 708),(11,.u 2911),(12,.u 2412)]
theorem aoK:isOk (au true (aU aiP))=true:=by kernel_rfl
def aoL:List (Nat×CV):= [(0,i 0),(1,i 0),(5,.u 205),(6,.u 106),(7,i 7),(8,i 0),(11,.u 2911)]
theorem arO:isOk (au true (aU aoL))=true:=by kernel_rfl
def aoM:List (Nat×CV):= [(0,i 0),(1,i 0),(5,.u 205),(6,.u 106),(7,i 8),(8,i 0)]
theorem arP:isOk (au true (aU aoM))=true:=by kernel_rfl
def aoN:List (Nat×CV):= [(0,i 0),(1,i 0),(5,.u 205),(6,.u 106),(7,i 9),(8,i 0),(11,.u 2911),(12,.u 2412)]
theorem arQ:isOk (au true (aU aoN))=true:=by kernel_rfl
def aiQ:List (Nat×CV):= [(0,i 0),(1,i 0),(5,.u 205),(6,.u 106),(7,i 7),(8,.u 708),(11,.u 2911)]
theorem aoO:isOk (au true (aU aiQ))=true:=by kernel_rfl
def aiR:List (Nat×CV):= [(0,i 0),(1,i 0),(5,.u 205),(6,.u 106),(7,i 8),(8,.u 708)]
theorem aoP:isOk (au true (aU aiR))=true:=by kernel_rfl
def aiS:List (Nat×CV):= [(0,i 0),(1,i 0),(5,.u 205),(6,.u 106),(7,i 9),(8,.u 708),(11,.u 2911),(12,.u 2412)]
theorem aoQ:isOk (au true (aU aiS))=true:=by kernel_rfl
def amk:List (Nat×CV):= [(0,i 0),(1,i 0),(5,i 1),(6,.u 106),(7,i 7),(8,i 0),(11,.u 2911)]
theorem apD:isOk (au true (aU amk))=true:=by kernel_rfl
def amr:List (Nat×CV):= [(0,i 0),(1,i 0),(5,i 1),(6,.u 106),(7,i 8),(8,i 0)]
theorem apI:isOk (au true (aU amr))=true:=by kernel_rfl
def amz:List (Nat×CV):= [(0,i 0),(1,i 0),(5,i 1),(6,.u 106),(7,i 9),(8,i 0),(11,.u 2911),(12,.u 2412)]
theorem apO:isOk (au true (aU amz))=true:=by kernel_rfl
def ahJ:List (Nat×CV):= [(0,i 0),(1,i 0),(5,i 1),(6,.u 106),(7,i 7),(8,.u 708),(11,.u 2911)]
theorem aml:isOk (au true (aU ahJ))=true:=by kernel_rfl
def ahM:List (Nat×CV):= [(0,i 0),(1,i 0),(5,i 1),(6,.u 106),(7,i 8),(8,.u 708)]
theorem ams:isOk (au true (aU ahM))=true:=by kernel_rfl
end Ci
namespace Ci
open Go.RowKit Go.Shelf
variable [fE]
def ahQ:List (Nat×CV):= [(0,i 0),(1,i 0),(5,i 1),(6,.u 106),(7,i 9),(8,.u 708),(11,.u 2911),(12,.u 2412)]
theorem amA:isOk (au true (aU ahQ))=true:=by kernel_rfl
def amm:List (Nat×CV):= [(0,i 0),(1,i 0),(5,.u 305),(6,.u 106),(7,i 7),(8,i 0),(11,.u 2911)]
theorem apF:isOk (au true (aU amm))=true:=by kernel_rfl
def amu:List (Nat×CV):= [(0,i 0),(1,i 0),(5,.u 305),(6,.u 106),(7,i 8),(8,i 0)]
theorem apK:isOk (au true (aU amu))=true:=by kernel_rfl
def amB:List (Nat×CV):= [(0,i 0),(1,i 0),(5,.u 305),(6,.u 106),(7,i 9),(8,i 0),(11,.u 2911),(12,.u 2412)]
theorem apP:isOk (au true (aU amB))=true:=by kernel_rfl
def ahK:List (Nat×CV):= [(0,i 0),(1,i 0),(5,.u 305),(6,.u 106),(7,i 7),(8,.u 708),(11,.u 2911)]
theorem amn:isOk (au true (aU ahK))=true:=by kernel_rfl
def ahN:List (Nat×CV):= [(0,i 0),(1,i 0),(5,.u 305),(6,.u 106),(7,i 8),(8,.u 708)]
theorem amv:isOk (au true (aU ahN))=true:=by kernel_rfl
def ahR:List (Nat×CV):= [(0,i 0),(1,i 0),(5,.u 305),(6,.u 106),(7,i 9),(8,.u 708),(11,.u 2911),(12,.u 2412)]
theorem amC:isOk (au true (aU ahR))=true:=by kernel_rfl
end Ci
end Go.Proofs.YtnegekppaoedgaaGreatDoor
