/-
Running code on constants: an input is taken (4).
-/
import Derived.Test.YtnegekppaoedgaaGreatDoorQ11
set_option linter.all false
namespace Go.Proofs.YtnegekppaoedgaaGreatDoor
namespace Ci
open Go.RowKit Go.Shelf
variable [fE]
def Gh:List (Nat×CV):= [(0,i 3),(1,i 0),(20,i 4),(21,i 1),(22,i 1)]
theorem UC:isOk (au true (aU Gh))=true:=by kernel_rfl
def Gi:List (Nat×CV):= [(0,i 3),(1,i 0),(20,i 4),(21,i 1),(22,i 2)]
theorem UD:isOk (au true (aU Gi))=true:=by kernel_rfl
def Gj:List (Nat×CV):= [(0,i 3),(1,i 0),(20,i 4),(21,i 2),(22,i 0)]
theorem UE:isOk (au true (aU Gj))=true:=by kernel_rfl
def Gl:List (Nat×CV):= [(0,i 3),(1,i 0),(20,i 4),(21,i 2),(22,i 1)]
theorem UF:isOk (au true (aU Gl))=true:=by kernel_rfl
def Gm:List (Nat×CV):= [(0,i 3),(1,i 0),(20,i 4),(21,i 2),(22,i 2)]
theorem UG:isOk (au true (aU Gm))=true:=by kernel_rfl
def JM:List (Nat×CV):= [(0,i 4),(1,i 0),(23,.u 1723),(24,i 0)]
theorem YE:isOk (au true (aU JM))=true:=by kernel_rfl
def ac7:List (Nat×CV):= [(0,i 5),(1,i 0),(27,.u 1327)]
theorem alc:isOk (au true (aU ac7))=true:=by kernel_rfl
def ac8:List (Nat×CV):= [(0,i 6),(1,i 0),(4,.u 104)]
theorem ald:isOk (au true (aU ac8))=true:=by kernel_rfl
def WR:List (Nat×CV):= [(0,i 7),(1,i 0),(31,.u 1331)]
theorem ahg:isOk (au true (aU WR))=true:=by kernel_rfl
def ac9:List (Nat×CV):= [(0,i 8),(1,.u 1001),(2,.u 1302)]
theorem ale:isOk (au true (aU ac9))=true:=by kernel_rfl
def WS:List (Nat×CV):= [(0,i 9),(1,i 0),(34,.u 1834)]
theorem ahh:isOk (au true (aU WS))=true:=by kernel_rfl
def WT:List (Nat×CV):= [(0,i 9),(1,i 0),(34,.u 4134)]
theorem ahi:isOk (au true (aU WT))=true:=by kernel_rfl
end Ci
namespace Ci
open Go.RowKit Go.Shelf
variable [fE]
def WU:List (Nat×CV):= [(0,i 9),(1,i 0),(34,.u 4234)]
theorem ahj:isOk (au true (aU WU))=true:=by kernel_rfl
def WV:List (Nat×CV):= [(0,i 9),(1,i 0),(34,.u 4334)]
theorem ahk:isOk (au true (aU WV))=true:=by kernel_rfl
def WW:List (Nat×CV):= [(0,i 9),(1,i 0),(34,.u 4434)]
theorem ahl:isOk (au true (aU WW))=true:=by kernel_rfl
def aiC:List (Nat×CV):= [(0,i 0),(1,i 0),(5,.u 405),(6,.u 106),(7,i 1),(8,.u 808)]
theorem aoq:isOk (au true (aU aiC))=true:=by kernel_rfl
def aiD:List (Nat×CV):= [(0,i 0),(1,i 0),(5,.u 405),(6,.u 106),(7,i 2),(8,.u 808)]
theorem aor:isOk (au true (aU aiD))=true:=by kernel_rfl
def aiE:List (Nat×CV):= [(0,i 0),(1,i 0),(5,.u 405),(6,.u 106),(7,i 3),(8,.u 808)]
theorem aos:isOk (au true (aU aiE))=true:=by kernel_rfl
def aiF:List (Nat×CV):= [(0,i 0),(1,i 0),(5,.u 405),(6,.u 106),(7,i 4),(8,.u 808)]
theorem aot:isOk (au true (aU aiF))=true:=by kernel_rfl
def ada:List (Nat×CV):= [(0,i 0),(1,i 0),(5,.u 405),(6,.u 106),(7,i 0),(8,.u 808),(9,j 0),(10,.u 110)]
theorem alf:isOk (au true (aU ada))=true:=by kernel_rfl
def adb:List (Nat×CV):= [(0,i 0),(1,i 0),(5,.u 405),(6,.u 106),(7,i 0),(8,.u 808),(9,j 0),(10,j 0),(11,.u 2911)]
theorem alg:isOk (au true (aU adb))=true:=by kernel_rfl
def ade:List (Nat×CV):= [(0,i 0),(1,i 0),(5,.u 405),(6,.u 106),(7,i 0),(8,.u 808),(9,j 0),(10,j 0),(11,j 0),(13,.u 2013)]
theorem alh:isOk (au true (aU ade))=true:=by kernel_rfl
def adf:List (Nat×CV):= [(0,i 0),(1,i 0),(5,.u 405),(6,.u 106),(7,i 0),(8,.u 808),(9,j 0),(10,j 0),(11,j 0),(13,.u 1913),(14,.u 2214)]
theorem ali:isOk (au true (aU adf))=true:=by kernel_rfl
def adg:List (Nat×CV):= [(0,i 0),(1,i 0),(5,.u 405),(6,.u 106),(7,i 0),(8,.u 808),(9,j 0),(10,j 0),(11,j 0),(13,.u 1913),(14,o)]
theorem alj:isOk (au true (aU adg))=true:=by kernel_rfl
end Ci
namespace Ci
open Go.RowKit Go.Shelf
variable [fE]
def adh:List (Nat×CV):= [(0,i 0),(1,i 0),(5,.u 405),(6,.u 106),(7,i 0),(8,.u 808),(9,j 0),(10,j 0),(11,j 0),(13,.u 1913),(14,.u 3614)]
theorem alk:isOk (au true (aU adh))=true:=by kernel_rfl
def adi:List (Nat×CV):= [(0,i 0),(1,i 0),(5,.u 405),(6,.u 106),(7,i 0),(8,.u 808),(9,.u 109),(10,.u 110)]
theorem alm:isOk (au true (aU adi))=true:=by kernel_rfl
def adk:List (Nat×CV):= [(0,i 0),(1,i 0),(5,.u 405),(6,.u 106),(7,i 0),(8,.u 808),(9,.u 109),(10,j 0),(11,.u 2911)]
theorem aln:isOk (au true (aU adk))=true:=by kernel_rfl
def adl:List (Nat×CV):= [(0,i 0),(1,i 0),(5,.u 405),(6,.u 106),(7,i 0),(8,.u 808),(9,.u 109),(10,j 0),(11,j 0),(13,.u 2013)]
theorem alo:isOk (au true (aU adl))=true:=by kernel_rfl
def adn:List (Nat×CV):= [(0,i 0),(1,i 0),(5,.u 405),(6,.u 106),(7,i 0),(8,.u 808),(9,.u 109),(10,j 0),(11,j 0),(13,.u 1913),(14,.u 2214)]
theorem alp:isOk (au true (aU adn))=true:=by kernel_rfl
def ado:List (Nat×CV):= [(0,i 0),(1,i 0),(5,.u 405),(6,.u 106),(7,i 0),(8,.u 808),(9,.u 109),(10,j 0),(11,j 0),(13,.u 1913),(14,o)]
theorem alq:isOk (au true (aU ado))=true:=by kernel_rfl
def adp:List (Nat×CV):= [(0,i 0),(1,i 0),(5,.u 405),(6,.u 106),(7,i 0),(8,.u 808),(9,.u 109),(10,j 0),(11,j 0),(13,.u 1913),(14,.u 3614)]
theorem alr:isOk (au true (aU adp))=true:=by kernel_rfl
def ahD:List (Nat×CV):= [(0,i 0),(1,i 0),(5,.u 505),(6,.u 106),(7,i 1),(8,.u 808),(13,.u 2113),(14,.u 2314)]
theorem amc:isOk (au true (aU ahD))=true:=by kernel_rfl
def aak:List (Nat×CV):= [(0,i 0),(1,i 0),(5,.u 505),(6,.u 106),(7,i 1),(8,.u 808),(9,j 0),(13,.u 2113),(14,o)]
theorem ai7:isOk (au true (aU aak))=true:=by kernel_rfl
def aal:List (Nat×CV):= [(0,i 0),(1,i 0),(5,.u 505),(6,.u 106),(7,i 1),(8,.u 808),(9,j 0),(13,.u 2113),(14,.u 3614)]
theorem ai8:isOk (au true (aU aal))=true:=by kernel_rfl
def aam:List (Nat×CV):= [(0,i 0),(1,i 0),(5,.u 505),(6,.u 106),(7,i 1),(8,.u 808),(9,j 0),(13,.u 2113),(14,.u 3714)]
theorem ai9:isOk (au true (aU aam))=true:=by kernel_rfl
def aan:List (Nat×CV):= [(0,i 0),(1,i 0),(5,.u 505),(6,.u 106),(7,i 1),(8,.u 808),(9,j 0),(13,.u 2113),(14,.u 4014)]
theorem aja:isOk (au true (aU aan))=true:=by kernel_rfl
end Ci
namespace Ci
open Go.RowKit Go.Shelf
variable [fE]
def aas:List (Nat×CV):= [(0,i 0),(1,i 0),(5,.u 505),(6,.u 106),(7,i 2),(8,.u 808),(9,j 0),(12,.u 2612)]
theorem ajf:isOk (au true (aU aas))=true:=by kernel_rfl
def aau:List (Nat×CV):= [(0,i 0),(1,i 0),(5,.u 505),(6,.u 106),(7,i 3),(8,.u 808),(9,j 0),(12,.u 2612)]
theorem ajh:isOk (au true (aU aau))=true:=by kernel_rfl
def aaw:List (Nat×CV):= [(0,i 0),(1,i 0),(5,.u 505),(6,.u 106),(7,i 4),(8,.u 808),(9,j 0),(12,.u 2612)]
theorem ajj:isOk (au true (aU aaw))=true:=by kernel_rfl
def aao:List (Nat×CV):= [(0,i 0),(1,i 0),(5,.u 505),(6,.u 106),(7,i 1),(8,.u 808),(9,.u 109),(13,.u 2113),(14,o)]
theorem ajb:isOk (au true (aU aao))=true:=by kernel_rfl
def aap:List (Nat×CV):= [(0,i 0),(1,i 0),(5,.u 505),(6,.u 106),(7,i 1),(8,.u 808),(9,.u 109),(13,.u 2113),(14,.u 3614)]
theorem ajc:isOk (au true (aU aap))=true:=by kernel_rfl
def aaq:List (Nat×CV):= [(0,i 0),(1,i 0),(5,.u 505),(6,.u 106),(7,i 1),(8,.u 808),(9,.u 109),(13,.u 2113),(14,.u 3714)]
theorem ajd:isOk (au true (aU aaq))=true:=by kernel_rfl
def aar:List (Nat×CV):= [(0,i 0),(1,i 0),(5,.u 505),(6,.u 106),(7,i 1),(8,.u 808),(9,.u 109),(13,.u 2113),(14,.u 4014)]
theorem aje:isOk (au true (aU aar))=true:=by kernel_rfl
def aat:List (Nat×CV):= [(0,i 0),(1,i 0),(5,.u 505),(6,.u 106),(7,i 2),(8,.u 808),(9,.u 109),(12,.u 2612)]
theorem ajg:isOk (au true (aU aat))=true:=by kernel_rfl
def aav:List (Nat×CV):= [(0,i 0),(1,i 0),(5,.u 505),(6,.u 106),(7,i 3),(8,.u 808),(9,.u 109),(12,.u 2612)]
theorem aji:isOk (au true (aU aav))=true:=by kernel_rfl
def aax:List (Nat×CV):= [(0,i 0),(1,i 0),(5,.u 505),(6,.u 106),(7,i 4),(8,.u 808),(9,.u 109),(12,.u 2612)]
theorem ajk:isOk (au true (aU aax))=true:=by kernel_rfl
def NT:List (Nat×CV):= [(0,i 0),(1,i 0),(5,.u 505),(6,.u 106),(7,i 0),(8,.u 808),(9,j 0),(10,j 0),(11,j 0),(13,.u 2113),(14,.u 2314)]
theorem Zz:isOk (au true (aU NT))=true:=by kernel_rfl
def NU:List (Nat×CV):= [(0,i 0),(1,i 0),(5,.u 505),(6,.u 106),(7,i 0),(8,.u 808),(9,j 0),(10,j 0),(11,.u 2911),(13,.u 2113),(14,.u 2314)]
theorem ZG:isOk (au true (aU NU))=true:=by kernel_rfl
end Ci
end Go.Proofs.YtnegekppaoedgaaGreatDoor
