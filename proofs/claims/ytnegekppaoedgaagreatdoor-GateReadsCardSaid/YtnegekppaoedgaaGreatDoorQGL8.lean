/-
Running code on constants: an input is taken (8).
-/
import Derived.Test.YtnegekppaoedgaaGreatDoorQ11
set_option linter.all false
namespace Go.Proofs.YtnegekppaoedgaaGreatDoor
namespace Ci
open Go.RowKit Go.Shelf
variable [fE]
def N7:List (Nat×CV):= [(0,i 0),(1,i 0),(5,.u 505),(6,.u 106),(7,i 0),(8,.u 808),(9,j 0),(10,.u 110),(11,j 0),(13,.u 2113),(14,.u 2314)]
theorem ZL:isOk (au true (aU N7))=true:=by kernel_rfl
def NV:List (Nat×CV):= [(0,i 0),(1,i 0),(5,.u 505),(6,.u 106),(7,i 0),(8,.u 808),(9,j 0),(10,.u 110),(11,j 0),(13,.u 2113),(14,o)]
theorem ZH:isOk (au true (aU NV))=true:=by kernel_rfl
def NW:List (Nat×CV):= [(0,i 0),(1,i 0),(5,.u 505),(6,.u 106),(7,i 0),(8,.u 808),(9,j 0),(10,.u 110),(11,j 0),(13,.u 2113),(14,.u 3614)]
theorem ZI:isOk (au true (aU NW))=true:=by kernel_rfl
def NY:List (Nat×CV):= [(0,i 0),(1,i 0),(5,.u 505),(6,.u 106),(7,i 0),(8,.u 808),(9,j 0),(10,.u 110),(11,j 0),(13,.u 2113),(14,.u 3714)]
theorem ZJ:isOk (au true (aU NY))=true:=by kernel_rfl
def NZ:List (Nat×CV):= [(0,i 0),(1,i 0),(5,.u 505),(6,.u 106),(7,i 0),(8,.u 808),(9,j 0),(10,.u 110),(11,j 0),(13,.u 2113),(14,.u 4014)]
theorem ZK:isOk (au true (aU NZ))=true:=by kernel_rfl
def Oe:List (Nat×CV):= [(0,i 0),(1,i 0),(5,.u 505),(6,.u 106),(7,i 0),(8,.u 808),(9,j 0),(10,.u 110),(11,.u 2911),(13,.u 2113),(14,.u 2314)]
theorem ZQ:isOk (au true (aU Oe))=true:=by kernel_rfl
def N8:List (Nat×CV):= [(0,i 0),(1,i 0),(5,.u 505),(6,.u 106),(7,i 0),(8,.u 808),(9,j 0),(10,.u 110),(11,.u 2911),(13,.u 2113),(14,o)]
theorem ZM:isOk (au true (aU N8))=true:=by kernel_rfl
def N9:List (Nat×CV):= [(0,i 0),(1,i 0),(5,.u 505),(6,.u 106),(7,i 0),(8,.u 808),(9,j 0),(10,.u 110),(11,.u 2911),(13,.u 2113),(14,.u 3614)]
theorem ZN:isOk (au true (aU N9))=true:=by kernel_rfl
def Oa:List (Nat×CV):= [(0,i 0),(1,i 0),(5,.u 505),(6,.u 106),(7,i 0),(8,.u 808),(9,j 0),(10,.u 110),(11,.u 2911),(13,.u 2113),(14,.u 3714)]
theorem ZO:isOk (au true (aU Oa))=true:=by kernel_rfl
def Oc:List (Nat×CV):= [(0,i 0),(1,i 0),(5,.u 505),(6,.u 106),(7,i 0),(8,.u 808),(9,j 0),(10,.u 110),(11,.u 2911),(13,.u 2113),(14,.u 4014)]
theorem ZP:isOk (au true (aU Oc))=true:=by kernel_rfl
def Ol:List (Nat×CV):= [(0,i 0),(1,i 0),(5,.u 505),(6,.u 106),(7,i 0),(8,.u 808),(9,.u 109),(10,j 0),(11,j 0),(13,.u 2113),(14,.u 2314)]
theorem ZW:isOk (au true (aU Ol))=true:=by kernel_rfl
def Og:List (Nat×CV):= [(0,i 0),(1,i 0),(5,.u 505),(6,.u 106),(7,i 0),(8,.u 808),(9,.u 109),(10,j 0),(11,j 0),(13,.u 2113),(14,o)]
theorem ZR:isOk (au true (aU Og))=true:=by kernel_rfl
end Ci
namespace Ci
open Go.RowKit Go.Shelf
variable [fE]
def Oh:List (Nat×CV):= [(0,i 0),(1,i 0),(5,.u 505),(6,.u 106),(7,i 0),(8,.u 808),(9,.u 109),(10,j 0),(11,j 0),(13,.u 2113),(14,.u 3614)]
theorem ZT:isOk (au true (aU Oh))=true:=by kernel_rfl
def Oi:List (Nat×CV):= [(0,i 0),(1,i 0),(5,.u 505),(6,.u 106),(7,i 0),(8,.u 808),(9,.u 109),(10,j 0),(11,j 0),(13,.u 2113),(14,.u 3714)]
theorem ZU:isOk (au true (aU Oi))=true:=by kernel_rfl
def Oj:List (Nat×CV):= [(0,i 0),(1,i 0),(5,.u 505),(6,.u 106),(7,i 0),(8,.u 808),(9,.u 109),(10,j 0),(11,j 0),(13,.u 2113),(14,.u 4014)]
theorem ZV:isOk (au true (aU Oj))=true:=by kernel_rfl
def Ou:List (Nat×CV):= [(0,i 0),(1,i 0),(5,.u 505),(6,.u 106),(7,i 0),(8,.u 808),(9,.u 109),(10,j 0),(11,.u 2911),(13,.u 2113),(14,.u 2314)]
theorem Z7:isOk (au true (aU Ou))=true:=by kernel_rfl
def Om:List (Nat×CV):= [(0,i 0),(1,i 0),(5,.u 505),(6,.u 106),(7,i 0),(8,.u 808),(9,.u 109),(10,j 0),(11,.u 2911),(13,.u 2113),(14,o)]
theorem ZX:isOk (au true (aU Om))=true:=by kernel_rfl
def Oo:List (Nat×CV):= [(0,i 0),(1,i 0),(5,.u 505),(6,.u 106),(7,i 0),(8,.u 808),(9,.u 109),(10,j 0),(11,.u 2911),(13,.u 2113),(14,.u 3614)]
theorem ZY:isOk (au true (aU Oo))=true:=by kernel_rfl
def Oq:List (Nat×CV):= [(0,i 0),(1,i 0),(5,.u 505),(6,.u 106),(7,i 0),(8,.u 808),(9,.u 109),(10,j 0),(11,.u 2911),(13,.u 2113),(14,.u 3714)]
theorem Z4:isOk (au true (aU Oq))=true:=by kernel_rfl
def Ot:List (Nat×CV):= [(0,i 0),(1,i 0),(5,.u 505),(6,.u 106),(7,i 0),(8,.u 808),(9,.u 109),(10,j 0),(11,.u 2911),(13,.u 2113),(14,.u 4014)]
theorem Z5:isOk (au true (aU Ot))=true:=by kernel_rfl
def OA:List (Nat×CV):= [(0,i 0),(1,i 0),(5,.u 505),(6,.u 106),(7,i 0),(8,.u 808),(9,.u 109),(10,.u 110),(11,j 0),(13,.u 2113),(14,.u 2314)]
theorem aae:isOk (au true (aU OA))=true:=by kernel_rfl
def Ov:List (Nat×CV):= [(0,i 0),(1,i 0),(5,.u 505),(6,.u 106),(7,i 0),(8,.u 808),(9,.u 109),(10,.u 110),(11,j 0),(13,.u 2113),(14,o)]
theorem Z8:isOk (au true (aU Ov))=true:=by kernel_rfl
def Ox:List (Nat×CV):= [(0,i 0),(1,i 0),(5,.u 505),(6,.u 106),(7,i 0),(8,.u 808),(9,.u 109),(10,.u 110),(11,j 0),(13,.u 2113),(14,.u 3614)]
theorem Z9:isOk (au true (aU Ox))=true:=by kernel_rfl
def Oy:List (Nat×CV):= [(0,i 0),(1,i 0),(5,.u 505),(6,.u 106),(7,i 0),(8,.u 808),(9,.u 109),(10,.u 110),(11,j 0),(13,.u 2113),(14,.u 3714)]
theorem aac:isOk (au true (aU Oy))=true:=by kernel_rfl
end Ci
namespace Ci
open Go.RowKit Go.Shelf
variable [fE]
def Oz:List (Nat×CV):= [(0,i 0),(1,i 0),(5,.u 505),(6,.u 106),(7,i 0),(8,.u 808),(9,.u 109),(10,.u 110),(11,j 0),(13,.u 2113),(14,.u 4014)]
theorem aad:isOk (au true (aU Oz))=true:=by kernel_rfl
def OG:List (Nat×CV):= [(0,i 0),(1,i 0),(5,.u 505),(6,.u 106),(7,i 0),(8,.u 808),(9,.u 109),(10,.u 110),(11,.u 2911),(13,.u 2113),(14,.u 2314)]
theorem aaj:isOk (au true (aU OG))=true:=by kernel_rfl
def OB:List (Nat×CV):= [(0,i 0),(1,i 0),(5,.u 505),(6,.u 106),(7,i 0),(8,.u 808),(9,.u 109),(10,.u 110),(11,.u 2911),(13,.u 2113),(14,o)]
theorem aaf:isOk (au true (aU OB))=true:=by kernel_rfl
def OC:List (Nat×CV):= [(0,i 0),(1,i 0),(5,.u 505),(6,.u 106),(7,i 0),(8,.u 808),(9,.u 109),(10,.u 110),(11,.u 2911),(13,.u 2113),(14,.u 3614)]
theorem aag:isOk (au true (aU OC))=true:=by kernel_rfl
def OD:List (Nat×CV):= [(0,i 0),(1,i 0),(5,.u 505),(6,.u 106),(7,i 0),(8,.u 808),(9,.u 109),(10,.u 110),(11,.u 2911),(13,.u 2113),(14,.u 3714)]
theorem aah:isOk (au true (aU OD))=true:=by kernel_rfl
def OE:List (Nat×CV):= [(0,i 0),(1,i 0),(5,.u 505),(6,.u 106),(7,i 0),(8,.u 808),(9,.u 109),(10,.u 110),(11,.u 2911),(13,.u 2113),(14,.u 4014)]
theorem aai:isOk (au true (aU OE))=true:=by kernel_rfl
def Vd:List (Nat×CV):= [(0,i 0),(1,i 0),(5,i 13),(6,.u 106),(7,i 0),(8,.u 808),(9,j 0),(10,j 0),(11,j 0),(13,.u 2113),(14,o)]
theorem aez:isOk (au true (aU Vd))=true:=by kernel_rfl
def Ve:List (Nat×CV):= [(0,i 0),(1,i 0),(5,i 13),(6,.u 106),(7,i 0),(8,.u 808),(9,j 0),(10,j 0),(11,j 0),(13,.u 2113),(14,.u 3614)]
theorem aeA:isOk (au true (aU Ve))=true:=by kernel_rfl
def Vf:List (Nat×CV):= [(0,i 0),(1,i 0),(5,i 13),(6,.u 106),(7,i 0),(8,.u 808),(9,j 0),(10,j 0),(11,j 0),(13,.u 2113),(14,.u 3714)]
theorem aeB:isOk (au true (aU Vf))=true:=by kernel_rfl
def Vh:List (Nat×CV):= [(0,i 0),(1,i 0),(5,i 13),(6,.u 106),(7,i 0),(8,.u 808),(9,j 0),(10,j 0),(11,j 0),(13,.u 2113),(14,.u 3814)]
theorem aeD:isOk (au true (aU Vh))=true:=by kernel_rfl
def Vg:List (Nat×CV):= [(0,i 0),(1,i 0),(5,i 13),(6,.u 106),(7,i 0),(8,.u 808),(9,j 0),(10,j 0),(11,j 0),(13,.u 2113),(14,.u 3914)]
theorem aeC:isOk (au true (aU Vg))=true:=by kernel_rfl
def Zt:List (Nat×CV):= [(0,i 0),(1,i 0),(5,.u 605),(6,.u 106),(7,i 0),(8,.u 808),(9,j 0),(10,j 0),(11,j 0),(13,.u 2113),(14,o)]
theorem aiX:isOk (au true (aU Zt))=true:=by kernel_rfl
end Ci
namespace Ci
open Go.RowKit Go.Shelf
variable [fE]
def Zv:List (Nat×CV):= [(0,i 0),(1,i 0),(5,.u 605),(6,.u 106),(7,i 0),(8,.u 808),(9,j 0),(10,j 0),(11,j 0),(13,.u 2113),(14,.u 3614)]
theorem aiY:isOk (au true (aU Zv))=true:=by kernel_rfl
def Zw:List (Nat×CV):= [(0,i 0),(1,i 0),(5,.u 605),(6,.u 106),(7,i 0),(8,.u 808),(9,j 0),(10,j 0),(11,j 0),(13,.u 2113),(14,.u 3714)]
theorem aiZ:isOk (au true (aU Zw))=true:=by kernel_rfl
def Zy:List (Nat×CV):= [(0,i 0),(1,i 0),(5,.u 605),(6,.u 106),(7,i 0),(8,.u 808),(9,j 0),(10,j 0),(11,j 0),(13,.u 2113),(14,.u 3814)]
theorem ai1:isOk (au true (aU Zy))=true:=by kernel_rfl
def Zx:List (Nat×CV):= [(0,i 0),(1,i 0),(5,.u 605),(6,.u 106),(7,i 0),(8,.u 808),(9,j 0),(10,j 0),(11,j 0),(13,.u 2113),(14,.u 3914)]
theorem ai0:isOk (au true (aU Zx))=true:=by kernel_rfl
def Vj:List (Nat×CV):= [(0,i 0),(1,i 0),(5,i 13),(6,.u 106),(7,i 0),(8,.u 808),(9,j 0),(10,j 0),(11,.u 2911),(13,.u 2113),(14,o)]
theorem aeE:isOk (au true (aU Vj))=true:=by kernel_rfl
def Vk:List (Nat×CV):= [(0,i 0),(1,i 0),(5,i 13),(6,.u 106),(7,i 0),(8,.u 808),(9,j 0),(10,j 0),(11,.u 2911),(13,.u 2113),(14,.u 3614)]
theorem aeF:isOk (au true (aU Vk))=true:=by kernel_rfl
def Vl:List (Nat×CV):= [(0,i 0),(1,i 0),(5,i 13),(6,.u 106),(7,i 0),(8,.u 808),(9,j 0),(10,j 0),(11,.u 2911),(13,.u 2113),(14,.u 3714)]
theorem aeG:isOk (au true (aU Vl))=true:=by kernel_rfl
def Vo:List (Nat×CV):= [(0,i 0),(1,i 0),(5,i 13),(6,.u 106),(7,i 0),(8,.u 808),(9,j 0),(10,j 0),(11,.u 2911),(13,.u 2113),(14,.u 3814)]
theorem aeI:isOk (au true (aU Vo))=true:=by kernel_rfl
def Vm:List (Nat×CV):= [(0,i 0),(1,i 0),(5,i 13),(6,.u 106),(7,i 0),(8,.u 808),(9,j 0),(10,j 0),(11,.u 2911),(13,.u 2113),(14,.u 3914)]
theorem aeH:isOk (au true (aU Vm))=true:=by kernel_rfl
def ZA:List (Nat×CV):= [(0,i 0),(1,i 0),(5,.u 605),(6,.u 106),(7,i 0),(8,.u 808),(9,j 0),(10,j 0),(11,.u 2911),(13,.u 2113),(14,o)]
theorem ai2:isOk (au true (aU ZA))=true:=by kernel_rfl
def ZB:List (Nat×CV):= [(0,i 0),(1,i 0),(5,.u 605),(6,.u 106),(7,i 0),(8,.u 808),(9,j 0),(10,j 0),(11,.u 2911),(13,.u 2113),(14,.u 3614)]
theorem ai3:isOk (au true (aU ZB))=true:=by kernel_rfl
def ZC:List (Nat×CV):= [(0,i 0),(1,i 0),(5,.u 605),(6,.u 106),(7,i 0),(8,.u 808),(9,j 0),(10,j 0),(11,.u 2911),(13,.u 2113),(14,.u 3714)]
theorem ai4:isOk (au true (aU ZC))=true:=by kernel_rfl
end Ci
end Go.Proofs.YtnegekppaoedgaaGreatDoor
