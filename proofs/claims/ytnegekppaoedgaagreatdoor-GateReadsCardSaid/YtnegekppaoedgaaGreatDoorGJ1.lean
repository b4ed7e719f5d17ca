/-
The cases of an input, put together.
-/
import Derived.Test.YtnegekppaoedgaaGreatDoorQ12
import Derived.Test.YtnegekppaoedgaaGreatDoorQGL0
import Derived.Test.YtnegekppaoedgaaGreatDoorQGL4
import Derived.Test.YtnegekppaoedgaaGreatDoorQGL8
import Derived.Test.YtnegekppaoedgaaGreatDoorQGL12
set_option linter.all false
namespace Go.Proofs.YtnegekppaoedgaaGreatDoor.Ci
open Go.RowKit Go.Shelf
variable [fE] {x : qM}
theorem Ry (a0:x.z 0=0) (a1:x.z 1=0) (a7:x.z 7=0) (hn:x.z 5 % 12=1) (b5:0≤x.z 5∧x.z 5≤1999) (b6:0≤x.z 6∧x.z 6≤1099511627776) (b8:0≤x.z 8∧x.z 8≤499) (b9: -1≤x.z 9∧x.z 9≤1099511627776) (b10: -1≤x.z 10∧x.z 10≤1099511627776) (b11: -1≤x.z 11∧x.z 11≤1999) (b12:0≤x.z 12∧x.z 12≤100) (bs:x.s.size≤200) (bn:x.fn≤4) (hf0:okV x.F.f 1760) (hf1:okV x.F.f 1761) (hf2:¬x.fl.getD 0 0=x.fl.getD 1 0→okV x.F.f 3561) (hf3:x.fl.getD 0 0=x.fl.getD 1 0→x.f 61=x.f 60):vK x:=by
 by_cases h95:x.z 9= -1
 ·by_cases GN:x.z 10= -1
  ·by_cases h65:x.z 11= -1
   ·by_cases h54:x.fn≤2
    ·by_cases h53:x.z 5=13
     ·by_cases h48:x.f 14= .slice none 0 0
      ·have hnil:=h48
       exact ⟨Vd,(nk rfl a0 (nk rfl a1 (nk rfl h53 (nu rfl rfl rfl rfl (s1 (by omega)) (nk rfl a7 (nu rfl rfl rfl rfl (s8 (by omega)) (nk rfl h95 (nk rfl GN (nk rfl h65 (nw rfl rfl (jV (by omega)) (nc (nN hnil) nn))))))))))),aez⟩
      ·have hnn:=h48
       by_cases h47:x.fn=0
       ·exact ⟨Ve,(nk rfl a0 (nk rfl a1 (nk rfl h53 (nu rfl rfl rfl rfl (s1 (by omega)) (nk rfl a7 (nu rfl rfl rfl rfl (s8 (by omega)) (nk rfl h95 (nk rfl GN (nk rfl h65 (nw rfl rfl (jV (by omega)) (nc (nF rfl rfl (s36 (by omega)) hnn) nn))))))))))),aeA⟩
       ·by_cases h46:x.fn=1
        ·exact ⟨Vf,(nk rfl a0 (nk rfl a1 (nk rfl h53 (nu rfl rfl rfl rfl (s1 (by omega)) (nk rfl a7 (nu rfl rfl rfl rfl (s8 (by omega)) (nk rfl h95 (nk rfl GN (nk rfl h65 (nw rfl rfl (jV (by omega)) (nc (nF rfl rfl (Y0 (by omega)) ⟨hnn,hf0⟩) nn))))))))))),aeB⟩
        ·by_cases h45:x.fl.getD 0 0=x.fl.getD 1 0
         ·have hne:=h45
          exact ⟨Vg,(nk rfl a0 (nk rfl a1 (nk rfl h53 (nu rfl rfl rfl rfl (s1 (by omega)) (nk rfl a7 (nu rfl rfl rfl rfl (s8 (by omega)) (nk rfl h95 (nk rfl GN (nk rfl h65 (nw rfl rfl (jV (by omega)) (nc (nF rfl rfl (s39 (by omega)) ⟨hnn,hf0,hf3 hne⟩) nn))))))))))),aeC⟩
         ·have hne:=h45
          exact ⟨Vh,(nk rfl a0 (nk rfl a1 (nk rfl h53 (nu rfl rfl rfl rfl (s1 (by omega)) (nk rfl a7 (nu rfl rfl rfl rfl (s8 (by omega)) (nk rfl h95 (nk rfl GN (nk rfl h65 (nw rfl rfl (jV (by omega)) (nc (nF rfl rfl (s38 (by omega)) ⟨hnn,hf0,hf2 hne⟩) nn))))))))))),aeD⟩
     ·by_cases h52:x.f 14= .slice none 0 0
      ·have hnil:=h52
       exact ⟨Zt,(nk rfl a0 (nk rfl a1 (nu rfl rfl rfl rfl (s6 (by omega)) (nu rfl rfl rfl rfl (s1 (by omega)) (nk rfl a7 (nu rfl rfl rfl rfl (s8 (by omega)) (nk rfl h95 (nk rfl GN (nk rfl h65 (nw rfl rfl (jV (by omega)) (nc (nN hnil) nn))))))))))),aiX⟩
      ·have hnn:=h52
       by_cases h51:x.fn=0
       ·exact ⟨Zv,(nk rfl a0 (nk rfl a1 (nu rfl rfl rfl rfl (s6 (by omega)) (nu rfl rfl rfl rfl (s1 (by omega)) (nk rfl a7 (nu rfl rfl rfl rfl (s8 (by omega)) (nk rfl h95 (nk rfl GN (nk rfl h65 (nw rfl rfl (jV (by omega)) (nc (nF rfl rfl (s36 (by omega)) hnn) nn))))))))))),aiY⟩
       ·by_cases h50:x.fn=1
        ·exact ⟨Zw,(nk rfl a0 (nk rfl a1 (nu rfl rfl rfl rfl (s6 (by omega)) (nu rfl rfl rfl rfl (s1 (by omega)) (nk rfl a7 (nu rfl rfl rfl rfl (s8 (by omega)) (nk rfl h95 (nk rfl GN (nk rfl h65 (nw rfl rfl (jV (by omega)) (nc (nF rfl rfl (Y0 (by omega)) ⟨hnn,hf0⟩) nn))))))))))),aiZ⟩
        ·by_cases h49:x.fl.getD 0 0=x.fl.getD 1 0
         ·have hne:=h49
          exact ⟨Zx,(nk rfl a0 (nk rfl a1 (nu rfl rfl rfl rfl (s6 (by omega)) (nu rfl rfl rfl rfl (s1 (by omega)) (nk rfl a7 (nu rfl rfl rfl rfl (s8 (by omega)) (nk rfl h95 (nk rfl GN (nk rfl h65 (nw rfl rfl (jV (by omega)) (nc (nF rfl rfl (s39 (by omega)) ⟨hnn,hf0,hf3 hne⟩) nn))))))))))),ai0⟩
         ·have hne:=h49
          exact ⟨Zy,(nk rfl a0 (nk rfl a1 (nu rfl rfl rfl rfl (s6 (by omega)) (nu rfl rfl rfl rfl (s1 (by omega)) (nk rfl a7 (nu rfl rfl rfl rfl (s8 (by omega)) (nk rfl h95 (nk rfl GN (nk rfl h65 (nw rfl rfl (jV (by omega)) (nc (nF rfl rfl (s38 (by omega)) ⟨hnn,hf0,hf2 hne⟩) nn))))))))))),ai1⟩
    ·exact ⟨NT,(nk rfl a0 (nk rfl a1 (nu rfl rfl rfl rfl (s5 (by omega)) (nu rfl rfl rfl rfl (s1 (by omega)) (nk rfl a7 (nu rfl rfl rfl rfl (s8 (by omega)) (nk rfl h95 (nk rfl GN (nk rfl h65 (nw rfl rfl (jV (by omega)) (nc (nF rfl rfl (s23 (by omega)) trivial) nn))))))))))),Zz⟩
   ·by_cases h64:x.fn≤2
    ·by_cases h63:x.z 5=13
     ·by_cases h58:x.f 14= .slice none 0 0
      ·have hnil:=h58
       exact ⟨Vj,(nk rfl a0 (nk rfl a1 (nk rfl h63 (nu rfl rfl rfl rfl (s1 (by omega)) (nk rfl a7 (nu rfl rfl rfl rfl (s8 (by omega)) (nk rfl h95 (nk rfl GN (nu rfl rfl rfl rfl (jW (by omega)) (nw rfl rfl (jV (by omega)) (nc (nN hnil) nn))))))))))),aeE⟩
      ·have hnn:=h58
       by_cases h57:x.fn=0
       ·exact ⟨Vk,(nk rfl a0 (nk rfl a1 (nk rfl h63 (nu rfl rfl rfl rfl (s1 (by omega)) (nk rfl a7 (nu rfl rfl rfl rfl (s8 (by omega)) (nk rfl h95 (nk rfl GN (nu rfl rfl rfl rfl (jW (by omega)) (nw rfl rfl (jV (by omega)) (nc (nF rfl rfl (s36 (by omega)) hnn) nn))))))))))),aeF⟩
       ·by_cases h56:x.fn=1
        ·exact ⟨Vl,(nk rfl a0 (nk rfl a1 (nk rfl h63 (nu rfl rfl rfl rfl (s1 (by omega)) (nk rfl a7 (nu rfl rfl rfl rfl (s8 (by omega)) (nk rfl h95 (nk rfl GN (nu rfl rfl rfl rfl (jW (by omega)) (nw rfl rfl (jV (by omega)) (nc (nF rfl rfl (Y0 (by omega)) ⟨hnn,hf0⟩) nn))))))))))),aeG⟩
        ·by_cases h55:x.fl.getD 0 0=x.fl.getD 1 0
         ·have hne:=h55
          exact ⟨Vm,(nk rfl a0 (nk rfl a1 (nk rfl h63 (nu rfl rfl rfl rfl (s1 (by omega)) (nk rfl a7 (nu rfl rfl rfl rfl (s8 (by omega)) (nk rfl h95 (nk rfl GN (nu rfl rfl rfl rfl (jW (by omega)) (nw rfl rfl (jV (by omega)) (nc (nF rfl rfl (s39 (by omega)) ⟨hnn,hf0,hf3 hne⟩) nn))))))))))),aeH⟩
         ·have hne:=h55
          exact ⟨Vo,(nk rfl a0 (nk rfl a1 (nk rfl h63 (nu rfl rfl rfl rfl (s1 (by omega)) (nk rfl a7 (nu rfl rfl rfl rfl (s8 (by omega)) (nk rfl h95 (nk rfl GN (nu rfl rfl rfl rfl (jW (by omega)) (nw rfl rfl (jV (by omega)) (nc (nF rfl rfl (s38 (by omega)) ⟨hnn,hf0,hf2 hne⟩) nn))))))))))),aeI⟩
     ·by_cases h62:x.f 14= .slice none 0 0
      ·have hnil:=h62
       exact ⟨ZA,(nk rfl a0 (nk rfl a1 (nu rfl rfl rfl rfl (s6 (by omega)) (nu rfl rfl rfl rfl (s1 (by omega)) (nk rfl a7 (nu rfl rfl rfl rfl (s8 (by omega)) (nk rfl h95 (nk rfl GN (nu rfl rfl rfl rfl (jW (by omega)) (nw rfl rfl (jV (by omega)) (nc (nN hnil) nn))))))))))),ai2⟩
      ·have hnn:=h62
       by_cases h61:x.fn=0
       ·exact ⟨ZB,(nk rfl a0 (nk rfl a1 (nu rfl rfl rfl rfl (s6 (by omega)) (nu rfl rfl rfl rfl (s1 (by omega)) (nk rfl a7 (nu rfl rfl rfl rfl (s8 (by omega)) (nk rfl h95 (nk rfl GN (nu rfl rfl rfl rfl (jW (by omega)) (nw rfl rfl (jV (by omega)) (nc (nF rfl rfl (s36 (by omega)) hnn) nn))))))))))),ai3⟩
       ·by_cases h60:x.fn=1
        ·exact ⟨ZC,(nk rfl a0 (nk rfl a1 (nu rfl rfl rfl rfl (s6 (by omega)) (nu rfl rfl rfl rfl (s1 (by omega)) (nk rfl a7 (nu rfl rfl rfl rfl (s8 (by omega)) (nk rfl h95 (nk rfl GN (nu rfl rfl rfl rfl (jW (by omega)) (nw rfl rfl (jV (by omega)) (nc (nF rfl rfl (Y0 (by omega)) ⟨hnn,hf0⟩) nn))))))))))),ai4⟩
        ·by_cases h59:x.fl.getD 0 0=x.fl.getD 1 0
         ·have hne:=h59
          exact ⟨ZE,(nk rfl a0 (nk rfl a1 (nu rfl rfl rfl rfl (s6 (by omega)) (nu rfl rfl rfl rfl (s1 (by omega)) (nk rfl a7 (nu rfl rfl rfl rfl (s8 (by omega)) (nk rfl h95 (nk rfl GN (nu rfl rfl rfl rfl (jW (by omega)) (nw rfl rfl (jV (by omega)) (nc (nF rfl rfl (s39 (by omega)) ⟨hnn,hf0,hf3 hne⟩) nn))))))))))),ai5⟩
         ·have hne:=h59
          exact ⟨ZF,(nk rfl a0 (nk rfl a1 (nu rfl rfl rfl rfl (s6 (by omega)) (nu rfl rfl rfl rfl (s1 (by omega)) (nk rfl a7 (nu rfl rfl rfl rfl (s8 (by omega)) (nk rfl h95 (nk rfl GN (nu rfl rfl rfl rfl (jW (by omega)) (nw rfl rfl (jV (by omega)) (nc (nF rfl rfl (s38 (by omega)) ⟨hnn,hf0,hf2 hne⟩) nn))))))))))),ai6⟩
    ·exact ⟨NU,(nk rfl a0 (nk rfl a1 (nu rfl rfl rfl rfl (s5 (by omega)) (nu rfl rfl rfl rfl (s1 (by omega)) (nk rfl a7 (nu rfl rfl rfl rfl (s8 (by omega)) (nk rfl h95 (nk rfl GN (nu rfl rfl rfl rfl (jW (by omega)) (nw rfl rfl (jV (by omega)) (nc (nF rfl rfl (s23 (by omega)) trivial) nn))))))))))),ZG⟩
  ·by_cases h74:x.z 11= -1
   ·by_cases h69:x.fn≤2
    ·by_cases h68:x.f 14= .slice none 0 0
     ·have hnil:=h68
      exact ⟨NV,(nk rfl a0 (nk rfl a1 (nu rfl rfl rfl rfl (s5 (by omega)) (nu rfl rfl rfl rfl (s1 (by omega)) (nk rfl a7 (nu rfl rfl rfl rfl (s8 (by omega)) (nk rfl h95 (nu rfl rfl rfl rfl (s1 (by omega)) (nk rfl h74 (nw rfl rfl (jV (by omega)) (nc (nN hnil) nn))))))))))),ZH⟩
     ·have hnn:=h68
      by_cases h67:x.fn=0
      ·exact ⟨NW,(nk rfl a0 (nk rfl a1 (nu rfl rfl rfl rfl (s5 (by omega)) (nu rfl rfl rfl rfl (s1 (by omega)) (nk rfl a7 (nu rfl rfl rfl rfl (s8 (by omega)) (nk rfl h95 (nu rfl rfl rfl rfl (s1 (by omega)) (nk rfl h74 (nw rfl rfl (jV (by omega)) (nc (nF rfl rfl (s36 (by omega)) hnn) nn))))))))))),ZI⟩
      ·by_cases h66:x.fn=1
       ·exact ⟨NY,(nk rfl a0 (nk rfl a1 (nu rfl rfl rfl rfl (s5 (by omega)) (nu rfl rfl rfl rfl (s1 (by omega)) (nk rfl a7 (nu rfl rfl rfl rfl (s8 (by omega)) (nk rfl h95 (nu rfl rfl rfl rfl (s1 (by omega)) (nk rfl h74 (nw rfl rfl (jV (by omega)) (nc (nF rfl rfl (Y0 (by omega)) ⟨hnn,hf0⟩) nn))))))))))),ZJ⟩
       ·exact ⟨NZ,(nk rfl a0 (nk rfl a1 (nu rfl rfl rfl rfl (s5 (by omega)) (nu rfl rfl rfl rfl (s1 (by omega)) (nk rfl a7 (nu rfl rfl rfl rfl (s8 (by omega)) (nk rfl h95 (nu rfl rfl rfl rfl (s1 (by omega)) (nk rfl h74 (nw rfl rfl (jV (by omega)) (nc (nF rfl rfl (s40 (by omega)) ⟨hnn,hf0,hf1⟩) nn))))))))))),ZK⟩
    ·exact ⟨N7,(nk rfl a0 (nk rfl a1 (nu rfl rfl rfl rfl (s5 (by omega)) (nu rfl rfl rfl rfl (s1 (by omega)) (nk rfl a7 (nu rfl rfl rfl rfl (s8 (by omega)) (nk rfl h95 (nu rfl rfl rfl rfl (s1 (by omega)) (nk rfl h74 (nw rfl rfl (jV (by omega)) (nc (nF rfl rfl (s23 (by omega)) trivial) nn))))))))))),ZL⟩
   ·by_cases h73:x.fn≤2
    ·by_cases h72:x.f 14= .slice none 0 0
     ·have hnil:=h72
      exact ⟨N8,(nk rfl a0 (nk rfl a1 (nu rfl rfl rfl rfl (s5 (by omega)) (nu rfl rfl rfl rfl (s1 (by omega)) (nk rfl a7 (nu rfl rfl rfl rfl (s8 (by omega)) (nk rfl h95 (nu rfl rfl rfl rfl (s1 (by omega)) (nu rfl rfl rfl rfl (jW (by omega)) (nw rfl rfl (jV (by omega)) (nc (nN hnil) nn))))))))))),ZM⟩
     ·have hnn:=h72
      by_cases h71:x.fn=0
      ·exact ⟨N9,(nk rfl a0 (nk rfl a1 (nu rfl rfl rfl rfl (s5 (by omega)) (nu rfl rfl rfl rfl (s1 (by omega)) (nk rfl a7 (nu rfl rfl rfl rfl (s8 (by omega)) (nk rfl h95 (nu rfl rfl rfl rfl (s1 (by omega)) (nu rfl rfl rfl rfl (jW (by omega)) (nw rfl rfl (jV (by omega)) (nc (nF rfl rfl (s36 (by omega)) hnn) nn))))))))))),ZN⟩
      ·by_cases h70:x.fn=1
       ·exact ⟨Oa,(nk rfl a0 (nk rfl a1 (nu rfl rfl rfl rfl (s5 (by omega)) (nu rfl rfl rfl rfl (s1 (by omega)) (nk rfl a7 (nu rfl rfl rfl rfl (s8 (by omega)) (nk rfl h95 (nu rfl rfl rfl rfl (s1 (by omega)) (nu rfl rfl rfl rfl (jW (by omega)) (nw rfl rfl (jV (by omega)) (nc (nF rfl rfl (Y0 (by omega)) ⟨hnn,hf0⟩) nn))))))))))),ZO⟩
       ·exact ⟨Oc,(nk rfl a0 (nk rfl a1 (nu rfl rfl rfl rfl (s5 (by omega)) (nu rfl rfl rfl rfl (s1 (by omega)) (nk rfl a7 (nu rfl rfl rfl rfl (s8 (by omega)) (nk rfl h95 (nu rfl rfl rfl rfl (s1 (by omega)) (nu rfl rfl rfl rfl (jW (by omega)) (nw rfl rfl (jV (by omega)) (nc (nF rfl rfl (s40 (by omega)) ⟨hnn,hf0,hf1⟩) nn))))))))))),ZP⟩
    ·exact ⟨Oe,(nk rfl a0 (nk rfl a1 (nu rfl rfl rfl rfl (s5 (by omega)) (nu rfl rfl rfl rfl (s1 (by omega)) (nk rfl a7 (nu rfl rfl rfl rfl (s8 (by omega)) (nk rfl h95 (nu rfl rfl rfl rfl (s1 (by omega)) (nu rfl rfl rfl rfl (jW (by omega)) (nw rfl rfl (jV (by omega)) (nc (nF rfl rfl (s23 (by omega)) trivial) nn))))))))))),ZQ⟩
 ·by_cases h94:x.z 10= -1
  ·by_cases h84:x.z 11= -1
   ·by_cases h79:x.fn≤2
    ·by_cases h78:x.f 14= .slice none 0 0
     ·have hnil:=h78
      exact ⟨Og,(nk rfl a0 (nk rfl a1 (nu rfl rfl rfl rfl (s5 (by omega)) (nu rfl rfl rfl rfl (s1 (by omega)) (nk rfl a7 (nu rfl rfl rfl rfl (s8 (by omega)) (nu rfl rfl rfl rfl (s1 (by omega)) (nk rfl h94 (nk rfl h84 (nw rfl rfl (jV (by omega)) (nc (nN hnil) nn))))))))))),ZR⟩
     ·have hnn:=h78
      by_cases h77:x.fn=0
      ·exact ⟨Oh,(nk rfl a0 (nk rfl a1 (nu rfl rfl rfl rfl (s5 (by omega)) (nu rfl rfl rfl rfl (s1 (by omega)) (nk rfl a7 (nu rfl rfl rfl rfl (s8 (by omega)) (nu rfl rfl rfl rfl (s1 (by omega)) (nk rfl h94 (nk rfl h84 (nw rfl rfl (jV (by omega)) (nc (nF rfl rfl (s36 (by omega)) hnn) nn))))))))))),ZT⟩
      ·by_cases h76:x.fn=1
       ·exact ⟨Oi,(nk rfl a0 (nk rfl a1 (nu rfl rfl rfl rfl (s5 (by omega)) (nu rfl rfl rfl rfl (s1 (by omega)) (nk rfl a7 (nu rfl rfl rfl rfl (s8 (by omega)) (nu rfl rfl rfl rfl (s1 (by omega)) (nk rfl h94 (nk rfl h84 (nw rfl rfl (jV (by omega)) (nc (nF rfl rfl (Y0 (by omega)) ⟨hnn,hf0⟩) nn))))))))))),ZU⟩
       ·exact ⟨Oj,(nk rfl a0 (nk rfl a1 (nu rfl rfl rfl rfl (s5 (by omega)) (nu rfl rfl rfl rfl (s1 (by omega)) (nk rfl a7 (nu rfl rfl rfl rfl (s8 (by omega)) (nu rfl rfl rfl rfl (s1 (by omega)) (nk rfl h94 (nk rfl h84 (nw rfl rfl (jV (by omega)) (nc (nF rfl rfl (s40 (by omega)) ⟨hnn,hf0,hf1⟩) nn))))))))))),ZV⟩
    ·exact ⟨Ol,(nk rfl a0 (nk rfl a1 (nu rfl rfl rfl rfl (s5 (by omega)) (nu rfl rfl rfl rfl (s1 (by omega)) (nk rfl a7 (nu rfl rfl rfl rfl (s8 (by omega)) (nu rfl rfl rfl rfl (s1 (by omega)) (nk rfl h94 (nk rfl h84 (nw rfl rfl (jV (by omega)) (nc (nF rfl rfl (s23 (by omega)) trivial) nn))))))))))),ZW⟩
   ·by_cases h83:x.fn≤2
    ·by_cases h82:x.f 14= .slice none 0 0
     ·have hnil:=h82
      exact ⟨Om,(nk rfl a0 (nk rfl a1 (nu rfl rfl rfl rfl (s5 (by omega)) (nu rfl rfl rfl rfl (s1 (by omega)) (nk rfl a7 (nu rfl rfl rfl rfl (s8 (by omega)) (nu rfl rfl rfl rfl (s1 (by omega)) (nk rfl h94 (nu rfl rfl rfl rfl (jW (by omega)) (nw rfl rfl (jV (by omega)) (nc (nN hnil) nn))))))))))),ZX⟩
     ·have hnn:=h82
      by_cases h81:x.fn=0
      ·exact ⟨Oo,(nk rfl a0 (nk rfl a1 (nu rfl rfl rfl rfl (s5 (by omega)) (nu rfl rfl rfl rfl (s1 (by omega)) (nk rfl a7 (nu rfl rfl rfl rfl (s8 (by omega)) (nu rfl rfl rfl rfl (s1 (by omega)) (nk rfl h94 (nu rfl rfl rfl rfl (jW (by omega)) (nw rfl rfl (jV (by omega)) (nc (nF rfl rfl (s36 (by omega)) hnn) nn))))))))))),ZY⟩
      ·by_cases h80:x.fn=1
       ·exact ⟨Oq,(nk rfl a0 (nk rfl a1 (nu rfl rfl rfl rfl (s5 (by omega)) (nu rfl rfl rfl rfl (s1 (by omega)) (nk rfl a7 (nu rfl rfl rfl rfl (s8 (by omega)) (nu rfl rfl rfl rfl (s1 (by omega)) (nk rfl h94 (nu rfl rfl rfl rfl (jW (by omega)) (nw rfl rfl (jV (by omega)) (nc (nF rfl rfl (Y0 (by omega)) ⟨hnn,hf0⟩) nn))))))))))),Z4⟩
       ·exact ⟨Ot,(nk rfl a0 (nk rfl a1 (nu rfl rfl rfl rfl (s5 (by omega)) (nu rfl rfl rfl rfl (s1 (by omega)) (nk rfl a7 (nu rfl rfl rfl rfl (s8 (by omega)) (nu rfl rfl rfl rfl (s1 (by omega)) (nk rfl h94 (nu rfl rfl rfl rfl (jW (by omega)) (nw rfl rfl (jV (by omega)) (nc (nF rfl rfl (s40 (by omega)) ⟨hnn,hf0,hf1⟩) nn))))))))))),Z5⟩
    ·exact ⟨Ou,(nk rfl a0 (nk rfl a1 (nu rfl rfl rfl rfl (s5 (by omega)) (nu rfl rfl rfl rfl (s1 (by omega)) (nk rfl a7 (nu rfl rfl rfl rfl (s8 (by omega)) (nu rfl rfl rfl rfl (s1 (by omega)) (nk rfl h94 (nu rfl rfl rfl rfl (jW (by omega)) (nw rfl rfl (jV (by omega)) (nc (nF rfl rfl (s23 (by omega)) trivial) nn))))))))))),Z7⟩
  ·by_cases h93:x.z 11= -1
   ·by_cases h88:x.fn≤2
    ·by_cases h87:x.f 14= .slice none 0 0
     ·have hnil:=h87
      exact ⟨Ov,(nk rfl a0 (nk rfl a1 (nu rfl rfl rfl rfl (s5 (by omega)) (nu rfl rfl rfl rfl (s1 (by omega)) (nk rfl a7 (nu rfl rfl rfl rfl (s8 (by omega)) (nu rfl rfl rfl rfl (s1 (by omega)) (nu rfl rfl rfl rfl (s1 (by omega)) (nk rfl h93 (nw rfl rfl (jV (by omega)) (nc (nN hnil) nn))))))))))),Z8⟩
     ·have hnn:=h87
      by_cases h86:x.fn=0
      ·exact ⟨Ox,(nk rfl a0 (nk rfl a1 (nu rfl rfl rfl rfl (s5 (by omega)) (nu rfl rfl rfl rfl (s1 (by omega)) (nk rfl a7 (nu rfl rfl rfl rfl (s8 (by omega)) (nu rfl rfl rfl rfl (s1 (by omega)) (nu rfl rfl rfl rfl (s1 (by omega)) (nk rfl h93 (nw rfl rfl (jV (by omega)) (nc (nF rfl rfl (s36 (by omega)) hnn) nn))))))))))),Z9⟩
      ·by_cases h85:x.fn=1
       ·exact ⟨Oy,(nk rfl a0 (nk rfl a1 (nu rfl rfl rfl rfl (s5 (by omega)) (nu rfl rfl rfl rfl (s1 (by omega)) (nk rfl a7 (nu rfl rfl rfl rfl (s8 (by omega)) (nu rfl rfl rfl rfl (s1 (by omega)) (nu rfl rfl rfl rfl (s1 (by omega)) (nk rfl h93 (nw rfl rfl (jV (by omega)) (nc (nF rfl rfl (Y0 (by omega)) ⟨hnn,hf0⟩) nn))))))))))),aac⟩
       ·exact ⟨Oz,(nk rfl a0 (nk rfl a1 (nu rfl rfl rfl rfl (s5 (by omega)) (nu rfl rfl rfl rfl (s1 (by omega)) (nk rfl a7 (nu rfl rfl rfl rfl (s8 (by omega)) (nu rfl rfl rfl rfl (s1 (by omega)) (nu rfl rfl rfl rfl (s1 (by omega)) (nk rfl h93 (nw rfl rfl (jV (by omega)) (nc (nF rfl rfl (s40 (by omega)) ⟨hnn,hf0,hf1⟩) nn))))))))))),aad⟩
    ·exact ⟨OA,(nk rfl a0 (nk rfl a1 (nu rfl rfl rfl rfl (s5 (by omega)) (nu rfl rfl rfl rfl (s1 (by omega)) (nk rfl a7 (nu rfl rfl rfl rfl (s8 (by omega)) (nu rfl rfl rfl rfl (s1 (by omega)) (nu rfl rfl rfl rfl (s1 (by omega)) (nk rfl h93 (nw rfl rfl (jV (by omega)) (nc (nF rfl rfl (s23 (by omega)) trivial) nn))))))))))),aae⟩
   ·by_cases h92:x.fn≤2
    ·by_cases h91:x.f 14= .slice none 0 0
     ·have hnil:=h91
      exact ⟨OB,(nk rfl a0 (nk rfl a1 (nu rfl rfl rfl rfl (s5 (by omega)) (nu rfl rfl rfl rfl (s1 (by omega)) (nk rfl a7 (nu rfl rfl rfl rfl (s8 (by omega)) (nu rfl rfl rfl rfl (s1 (by omega)) (nu rfl rfl rfl rfl (s1 (by omega)) (nu rfl rfl rfl rfl (jW (by omega)) (nw rfl rfl (jV (by omega)) (nc (nN hnil) nn))))))))))),aaf⟩
     ·have hnn:=h91
      by_cases h90:x.fn=0
      ·exact ⟨OC,(nk rfl a0 (nk rfl a1 (nu rfl rfl rfl rfl (s5 (by omega)) (nu rfl rfl rfl rfl (s1 (by omega)) (nk rfl a7 (nu rfl rfl rfl rfl (s8 (by omega)) (nu rfl rfl rfl rfl (s1 (by omega)) (nu rfl rfl rfl rfl (s1 (by omega)) (nu rfl rfl rfl rfl (jW (by omega)) (nw rfl rfl (jV (by omega)) (nc (nF rfl rfl (s36 (by omega)) hnn) nn))))))))))),aag⟩
      ·by_cases h89:x.fn=1
       ·exact ⟨OD,(nk rfl a0 (nk rfl a1 (nu rfl rfl rfl rfl (s5 (by omega)) (nu rfl rfl rfl rfl (s1 (by omega)) (nk rfl a7 (nu rfl rfl rfl rfl (s8 (by omega)) (nu rfl rfl rfl rfl (s1 (by omega)) (nu rfl rfl rfl rfl (s1 (by omega)) (nu rfl rfl rfl rfl (jW (by omega)) (nw rfl rfl (jV (by omega)) (nc (nF rfl rfl (Y0 (by omega)) ⟨hnn,hf0⟩) nn))))))))))),aah⟩
       ·exact ⟨OE,(nk rfl a0 (nk rfl a1 (nu rfl rfl rfl rfl (s5 (by omega)) (nu rfl rfl rfl rfl (s1 (by omega)) (nk rfl a7 (nu rfl rfl rfl rfl (s8 (by omega)) (nu rfl rfl rfl rfl (s1 (by omega)) (nu rfl rfl rfl rfl (s1 (by omega)) (nu rfl rfl rfl rfl (jW (by omega)) (nw rfl rfl (jV (by omega)) (nc (nF rfl rfl (s40 (by omega)) ⟨hnn,hf0,hf1⟩) nn))))))))))),aai⟩
    ·exact ⟨OG,(nk rfl a0 (nk rfl a1 (nu rfl rfl rfl rfl (s5 (by omega)) (nu rfl rfl rfl rfl (s1 (by omega)) (nk rfl a7 (nu rfl rfl rfl rfl (s8 (by omega)) (nu rfl rfl rfl rfl (s1 (by omega)) (nu rfl rfl rfl rfl (s1 (by omega)) (nu rfl rfl rfl rfl (jW (by omega)) (nw rfl rfl (jV (by omega)) (nc (nF rfl rfl (s23 (by omega)) trivial) nn))))))))))),aaj⟩
theorem Rz (a0:x.z 0=0) (a1:x.z 1=0) (a7:x.z 7=1) (hn:x.z 5 % 12=1) (b5:0≤x.z 5∧x.z 5≤1999) (b6:0≤x.z 6∧x.z 6≤1099511627776) (b8:0≤x.z 8∧x.z 8≤499) (b9: -1≤x.z 9∧x.z 9≤1099511627776) (b10: -1≤x.z 10∧x.z 10≤1099511627776) (b11: -1≤x.z 11∧x.z 11≤1999) (b12:0≤x.z 12∧x.z 12≤100) (bs:x.s.size≤200) (bn:x.fn≤4) (hf0:okV x.F.f 1760) (hf1:okV x.F.f 1761) (hf2:¬x.fl.getD 0 0=x.fl.getD 1 0→okV x.F.f 3561) (hf3:x.fl.getD 0 0=x.fl.getD 1 0→x.f 61=x.f 60):vK x:=by
 by_cases h41:x.fn≤2
 ·by_cases h40:x.z 9= -1
  ·by_cases h36:x.f 14= .slice none 0 0
   ·have hnil:=h36
    exact ⟨aak,(nk rfl a0 (nk rfl a1 (nu rfl rfl rfl rfl (s5 (by omega)) (nu rfl rfl rfl rfl (s1 (by omega)) (nk rfl a7 (nu rfl rfl rfl rfl (s8 (by omega)) (nk rfl h40 (nw rfl rfl (jV (by omega)) (nc (nN hnil) nn))))))))),ai7⟩
   ·have hnn:=h36
    by_cases h35:x.fn=0
    ·exact ⟨aal,(nk rfl a0 (nk rfl a1 (nu rfl rfl rfl rfl (s5 (by omega)) (nu rfl rfl rfl rfl (s1 (by omega)) (nk rfl a7 (nu rfl rfl rfl rfl (s8 (by omega)) (nk rfl h40 (nw rfl rfl (jV (by omega)) (nc (nF rfl rfl (s36 (by omega)) hnn) nn))))))))),ai8⟩
    ·by_cases h34:x.fn=1
     ·exact ⟨aam,(nk rfl a0 (nk rfl a1 (nu rfl rfl rfl rfl (s5 (by omega)) (nu rfl rfl rfl rfl (s1 (by omega)) (nk rfl a7 (nu rfl rfl rfl rfl (s8 (by omega)) (nk rfl h40 (nw rfl rfl (jV (by omega)) (nc (nF rfl rfl (Y0 (by omega)) ⟨hnn,hf0⟩) nn))))))))),ai9⟩
     ·exact ⟨aan,(nk rfl a0 (nk rfl a1 (nu rfl rfl rfl rfl (s5 (by omega)) (nu rfl rfl rfl rfl (s1 (by omega)) (nk rfl a7 (nu rfl rfl rfl rfl (s8 (by omega)) (nk rfl h40 (nw rfl rfl (jV (by omega)) (nc (nF rfl rfl (s40 (by omega)) ⟨hnn,hf0,hf1⟩) nn))))))))),aja⟩
  ·by_cases h39:x.f 14= .slice none 0 0
   ·have hnil:=h39
    exact ⟨aao,(nk rfl a0 (nk rfl a1 (nu rfl rfl rfl rfl (s5 (by omega)) (nu rfl rfl rfl rfl (s1 (by omega)) (nk rfl a7 (nu rfl rfl rfl rfl (s8 (by omega)) (nu rfl rfl rfl rfl (s1 (by omega)) (nw rfl rfl (jV (by omega)) (nc (nN hnil) nn))))))))),ajb⟩
   ·have hnn:=h39
    by_cases h38:x.fn=0
    ·exact ⟨aap,(nk rfl a0 (nk rfl a1 (nu rfl rfl rfl rfl (s5 (by omega)) (nu rfl rfl rfl rfl (s1 (by omega)) (nk rfl a7 (nu rfl rfl rfl rfl (s8 (by omega)) (nu rfl rfl rfl rfl (s1 (by omega)) (nw rfl rfl (jV (by omega)) (nc (nF rfl rfl (s36 (by omega)) hnn) nn))))))))),ajc⟩
    ·by_cases h37:x.fn=1
     ·exact ⟨aaq,(nk rfl a0 (nk rfl a1 (nu rfl rfl rfl rfl (s5 (by omega)) (nu rfl rfl rfl rfl (s1 (by omega)) (nk rfl a7 (nu rfl rfl rfl rfl (s8 (by omega)) (nu rfl rfl rfl rfl (s1 (by omega)) (nw rfl rfl (jV (by omega)) (nc (nF rfl rfl (Y0 (by omega)) ⟨hnn,hf0⟩) nn))))))))),ajd⟩
     ·exact ⟨aar,(nk rfl a0 (nk rfl a1 (nu rfl rfl rfl rfl (s5 (by omega)) (nu rfl rfl rfl rfl (s1 (by omega)) (nk rfl a7 (nu rfl rfl rfl rfl (s8 (by omega)) (nu rfl rfl rfl rfl (s1 (by omega)) (nw rfl rfl (jV (by omega)) (nc (nF rfl rfl (s40 (by omega)) ⟨hnn,hf0,hf1⟩) nn))))))))),aje⟩
 ·exact ⟨ahD,(nk rfl a0 (nk rfl a1 (nu rfl rfl rfl rfl (s5 (by omega)) (nu rfl rfl rfl rfl (s1 (by omega)) (nk rfl a7 (nu rfl rfl rfl rfl (s8 (by omega)) (nw rfl rfl (jV (by omega)) (nc (nF rfl rfl (s23 (by omega)) trivial) nn)))))))),amc⟩
theorem RD (a0:x.z 0=0) (a1:x.z 1=0) (a7:x.z 7=2) (hn:x.z 5 % 12=1) (b5:0≤x.z 5∧x.z 5≤1999) (b6:0≤x.z 6∧x.z 6≤1099511627776) (b8:0≤x.z 8∧x.z 8≤499) (b9: -1≤x.z 9∧x.z 9≤1099511627776) (b10: -1≤x.z 10∧x.z 10≤1099511627776) (b11: -1≤x.z 11∧x.z 11≤1999) (b12:0≤x.z 12∧x.z 12≤100) (bs:x.s.size≤200) (bn:x.fn≤4) (hf0:okV x.F.f 1760) (hf1:okV x.F.f 1761) (hf2:¬x.fl.getD 0 0=x.fl.getD 1 0→okV x.F.f 3561) (hf3:x.fl.getD 0 0=x.fl.getD 1 0→x.f 61=x.f 60):vK x:=by
 by_cases h42:x.z 9= -1
 ·exact ⟨aas,(nk rfl a0 (nk rfl a1 (nu rfl rfl rfl rfl (s5 (by omega)) (nu rfl rfl rfl rfl (s1 (by omega)) (nk rfl a7 (nu rfl rfl rfl rfl (s8 (by omega)) (nk rfl h42 (nu rfl rfl rfl rfl (s26 (by omega)) nn)))))))),ajf⟩
 ·exact ⟨aat,(nk rfl a0 (nk rfl a1 (nu rfl rfl rfl rfl (s5 (by omega)) (nu rfl rfl rfl rfl (s1 (by omega)) (nk rfl a7 (nu rfl rfl rfl rfl (s8 (by omega)) (nu rfl rfl rfl rfl (s1 (by omega)) (nu rfl rfl rfl rfl (s26 (by omega)) nn)))))))),ajg⟩
theorem RF (a0:x.z 0=0) (a1:x.z 1=0) (a7:x.z 7=3) (hn:x.z 5 % 12=1) (b5:0≤x.z 5∧x.z 5≤1999) (b6:0≤x.z 6∧x.z 6≤1099511627776) (b8:0≤x.z 8∧x.z 8≤499) (b9: -1≤x.z 9∧x.z 9≤1099511627776) (b10: -1≤x.z 10∧x.z 10≤1099511627776) (b11: -1≤x.z 11∧x.z 11≤1999) (b12:0≤x.z 12∧x.z 12≤100) (bs:x.s.size≤200) (bn:x.fn≤4) (hf0:okV x.F.f 1760) (hf1:okV x.F.f 1761) (hf2:¬x.fl.getD 0 0=x.fl.getD 1 0→okV x.F.f 3561) (hf3:x.fl.getD 0 0=x.fl.getD 1 0→x.f 61=x.f 60):vK x:=by
 by_cases h43:x.z 9= -1
 ·exact ⟨aau,(nk rfl a0 (nk rfl a1 (nu rfl rfl rfl rfl (s5 (by omega)) (nu rfl rfl rfl rfl (s1 (by omega)) (nk rfl a7 (nu rfl rfl rfl rfl (s8 (by omega)) (nk rfl h43 (nu rfl rfl rfl rfl (s26 (by omega)) nn)))))))),ajh⟩
 ·exact ⟨aav,(nk rfl a0 (nk rfl a1 (nu rfl rfl rfl rfl (s5 (by omega)) (nu rfl rfl rfl rfl (s1 (by omega)) (nk rfl a7 (nu rfl rfl rfl rfl (s8 (by omega)) (nu rfl rfl rfl rfl (s1 (by omega)) (nu rfl rfl rfl rfl (s26 (by omega)) nn)))))))),aji⟩
theorem RG (a0:x.z 0=0) (a1:x.z 1=0) (a7:x.z 7=4) (hn:x.z 5 % 12=1) (b5:0≤x.z 5∧x.z 5≤1999) (b6:0≤x.z 6∧x.z 6≤1099511627776) (b8:0≤x.z 8∧x.z 8≤499) (b9: -1≤x.z 9∧x.z 9≤1099511627776) (b10: -1≤x.z 10∧x.z 10≤1099511627776) (b11: -1≤x.z 11∧x.z 11≤1999) (b12:0≤x.z 12∧x.z 12≤100) (bs:x.s.size≤200) (bn:x.fn≤4) (hf0:okV x.F.f 1760) (hf1:okV x.F.f 1761) (hf2:¬x.fl.getD 0 0=x.fl.getD 1 0→okV x.F.f 3561) (hf3:x.fl.getD 0 0=x.fl.getD 1 0→x.f 61=x.f 60):vK x:=by
 by_cases h44:x.z 9= -1
 ·exact ⟨aaw,(nk rfl a0 (nk rfl a1 (nu rfl rfl rfl rfl (s5 (by omega)) (nu rfl rfl rfl rfl (s1 (by omega)) (nk rfl a7 (nu rfl rfl rfl rfl (s8 (by omega)) (nk rfl h44 (nu rfl rfl rfl rfl (s26 (by omega)) nn)))))))),ajj⟩
 ·exact ⟨aax,(nk rfl a0 (nk rfl a1 (nu rfl rfl rfl rfl (s5 (by omega)) (nu rfl rfl rfl rfl (s1 (by omega)) (nk rfl a7 (nu rfl rfl rfl rfl (s8 (by omega)) (nu rfl rfl rfl rfl (s1 (by omega)) (nu rfl rfl rfl rfl (s26 (by omega)) nn)))))))),ajk⟩
theorem RH (a0:x.z 0=0) (a1:x.z 1=0) (a7:x.z 7=5) (hn:x.z 5 % 12=1) (b5:0≤x.z 5∧x.z 5≤1999) (b6:0≤x.z 6∧x.z 6≤1099511627776) (b8:0≤x.z 8∧x.z 8≤499) (b9: -1≤x.z 9∧x.z 9≤1099511627776) (b10: -1≤x.z 10∧x.z 10≤1099511627776) (b11: -1≤x.z 11∧x.z 11≤1999) (b12:0≤x.z 12∧x.z 12≤100) (bs:x.s.size≤200) (bn:x.fn≤4) (hf0:okV x.F.f 1760) (hf1:okV x.F.f 1761) (hf2:¬x.fl.getD 0 0=x.fl.getD 1 0→okV x.F.f 3561) (hf3:x.fl.getD 0 0=x.fl.getD 1 0→x.f 61=x.f 60):vK x:=by
 by_cases apw:x.z 11= -1
 ·exact ⟨ahE,(nk rfl a0 (nk rfl a1 (nu rfl rfl rfl rfl (s5 (by omega)) (nu rfl rfl rfl rfl (s1 (by omega)) (nk rfl a7 (nu rfl rfl rfl rfl (s8 (by omega)) (nk rfl apw nn))))))),amd⟩
 ·by_cases h99:x.z 5=13
  ·exact ⟨ahF,(nk rfl a0 (nk rfl a1 (nk rfl h99 (nu rfl rfl rfl rfl (s1 (by omega)) (nk rfl a7 (nu rfl rfl rfl rfl (s8 (by omega)) (nu rfl rfl rfl rfl (jW (by omega)) nn))))))),ame⟩
  ·by_cases h98:x.z 11 % 12=0
   ·exact ⟨Ib,(nk rfl a0 (nk rfl a1 (nu rfl rfl rfl rfl (s6 (by omega)) (nu rfl rfl rfl rfl (s1 (by omega)) (nk rfl a7 (nu rfl rfl rfl rfl (s8 (by omega)) (nu rfl rfl rfl rfl (s4 (by omega)) nn))))))),Xk⟩
   ·by_cases h97:x.z 11 % 12=1
    ·by_cases h96:x.z 11=x.z 5
     ·exact ⟨OH,(nk rfl a0 (nk rfl a1 (nu rfl rfl rfl rfl (s6 (by omega)) (nu rfl rfl rfl rfl (s1 (by omega)) (nk rfl a7 (nu rfl rfl rfl rfl (s8 (by omega)) (nc (ahG rfl rfl (by omega) (s6 (by omega))) nn))))))),aay⟩
     ·exact ⟨OI,(nk rfl a0 (nk rfl a1 (nu rfl rfl rfl rfl (s6 (by omega)) (nu rfl rfl rfl rfl (s1 (by omega)) (nk rfl a7 (nu rfl rfl rfl rfl (s8 (by omega)) (nc (nD rfl rfl rfl (by omega) (by omega)) nn))))))),aaz⟩
    ·exact ⟨Vp,(nk rfl a0 (nk rfl a1 (nu rfl rfl rfl rfl (s6 (by omega)) (nu rfl rfl rfl rfl (s1 (by omega)) (nk rfl a7 (nu rfl rfl rfl rfl (s8 (by omega)) (nc (nR 9 rfl rfl rfl (by decide) rfl (by omega) (by omega) (s9 (by omega))) nn))))))),aeJ⟩
theorem RI (a0:x.z 0=0) (a1:x.z 1=0) (a7:x.z 7=6) (hn:x.z 5 % 12=1) (b5:0≤x.z 5∧x.z 5≤1999) (b6:0≤x.z 6∧x.z 6≤1099511627776) (b8:0≤x.z 8∧x.z 8≤499) (b9: -1≤x.z 9∧x.z 9≤1099511627776) (b10: -1≤x.z 10∧x.z 10≤1099511627776) (b11: -1≤x.z 11∧x.z 11≤1999) (b12:0≤x.z 12∧x.z 12≤100) (bs:x.s.size≤200) (bn:x.fn≤4) (hf0:okV x.F.f 1760) (hf1:okV x.F.f 1761) (hf2:¬x.fl.getD 0 0=x.fl.getD 1 0→okV x.F.f 3561) (hf3:x.fl.getD 0 0=x.fl.getD 1 0→x.f 61=x.f 60):vK x:=by
 by_cases apx:x.z 5=13
 ·exact ⟨amf,(nk rfl a0 (nk rfl a1 (nk rfl apx (nu rfl rfl rfl rfl (s1 (by omega)) (nk rfl a7 (nu rfl rfl rfl rfl (s8 (by omega)) nn)))))),apy⟩
 ·exact ⟨amg,(nk rfl a0 (nk rfl a1 (nu rfl rfl rfl rfl (s6 (by omega)) (nu rfl rfl rfl rfl (s1 (by omega)) (nk rfl a7 (nu rfl rfl rfl rfl (s8 (by omega)) nn)))))),apz⟩
theorem RJ (a0:x.z 0=0) (a1:x.z 1=0) (a7:x.z 7=7) (hn:x.z 5 % 12=1) (b5:0≤x.z 5∧x.z 5≤1999) (b6:0≤x.z 6∧x.z 6≤1099511627776) (b8:0≤x.z 8∧x.z 8≤499) (b9: -1≤x.z 9∧x.z 9≤1099511627776) (b10: -1≤x.z 10∧x.z 10≤1099511627776) (b11: -1≤x.z 11∧x.z 11≤1999) (b12:0≤x.z 12∧x.z 12≤100) (bs:x.s.size≤200) (bn:x.fn≤4) (hf0:okV x.F.f 1760) (hf1:okV x.F.f 1761) (hf2:¬x.fl.getD 0 0=x.fl.getD 1 0→okV x.F.f 3561) (hf3:x.fl.getD 0 0=x.fl.getD 1 0→x.f 61=x.f 60):vK x:=by
 by_cases apA:x.z 11= -1
 ·exact ⟨ahH,(nk rfl a0 (nk rfl a1 (nu rfl rfl rfl rfl (s5 (by omega)) (nu rfl rfl rfl rfl (s1 (by omega)) (nk rfl a7 (nu rfl rfl rfl rfl (s8 (by omega)) (nk rfl apA nn))))))),amh⟩
 ·by_cases apB:x.z 5=13
  ·exact ⟨ahI,(nk rfl a0 (nk rfl a1 (nk rfl apB (nu rfl rfl rfl rfl (s1 (by omega)) (nk rfl a7 (nu rfl rfl rfl rfl (s8 (by omega)) (nu rfl rfl rfl rfl (jW (by omega)) nn))))))),ami⟩
  ·by_cases amj:x.z 5=1
   ·by_cases apC:x.z 8=0
    ·exact ⟨amk,(nk rfl a0 (nk rfl a1 (nk rfl amj (nu rfl rfl rfl rfl (s1 (by omega)) (nk rfl a7 (nk rfl apC (nu rfl rfl rfl rfl (jW (by omega)) nn))))))),apD⟩
    ·exact ⟨ahJ,(nk rfl a0 (nk rfl a1 (nk rfl amj (nu rfl rfl rfl rfl (s1 (by omega)) (nk rfl a7 (nu rfl rfl rfl rfl (s7 (by omega)) (nu rfl rfl rfl rfl (jW (by omega)) nn))))))),aml⟩
   ·by_cases apE:x.z 8=0
    ·exact ⟨amm,(nk rfl a0 (nk rfl a1 (nu rfl rfl rfl rfl (s3 (by omega)) (nu rfl rfl rfl rfl (s1 (by omega)) (nk rfl a7 (nk rfl apE (nu rfl rfl rfl rfl (jW (by omega)) nn))))))),apF⟩
    ·exact ⟨ahK,(nk rfl a0 (nk rfl a1 (nu rfl rfl rfl rfl (s3 (by omega)) (nu rfl rfl rfl rfl (s1 (by omega)) (nk rfl a7 (nu rfl rfl rfl rfl (s7 (by omega)) (nu rfl rfl rfl rfl (jW (by omega)) nn))))))),amn⟩
theorem RN (a0:x.z 0=0) (a1:x.z 1=0) (a7:x.z 7=8) (hn:x.z 5 % 12=1) (b5:0≤x.z 5∧x.z 5≤1999) (b6:0≤x.z 6∧x.z 6≤1099511627776) (b8:0≤x.z 8∧x.z 8≤499) (b9: -1≤x.z 9∧x.z 9≤1099511627776) (b10: -1≤x.z 10∧x.z 10≤1099511627776) (b11: -1≤x.z 11∧x.z 11≤1999) (b12:0≤x.z 12∧x.z 12≤100) (bs:x.s.size≤200) (bn:x.fn≤4) (hf0:okV x.F.f 1760) (hf1:okV x.F.f 1761) (hf2:¬x.fl.getD 0 0=x.fl.getD 1 0→okV x.F.f 3561) (hf3:x.fl.getD 0 0=x.fl.getD 1 0→x.f 61=x.f 60):vK x:=by
 by_cases apG:x.z 5=13
 ·exact ⟨ahL,(nk rfl a0 (nk rfl a1 (nk rfl apG (nu rfl rfl rfl rfl (s1 (by omega)) (nk rfl a7 (nu rfl rfl rfl rfl (s8 (by omega)) nn)))))),amo⟩
 ·by_cases amq:x.z 5=1
  ·by_cases apH:x.z 8=0
   ·exact ⟨amr,(nk rfl a0 (nk rfl a1 (nk rfl amq (nu rfl rfl rfl rfl (s1 (by omega)) (nk rfl a7 (nk rfl apH nn)))))),apI⟩
   ·exact ⟨ahM,(nk rfl a0 (nk rfl a1 (nk rfl amq (nu rfl rfl rfl rfl (s1 (by omega)) (nk rfl a7 (nu rfl rfl rfl rfl (s7 (by omega)) nn)))))),ams⟩
  ·by_cases apJ:x.z 8=0
   ·exact ⟨amu,(nk rfl a0 (nk rfl a1 (nu rfl rfl rfl rfl (s3 (by omega)) (nu rfl rfl rfl rfl (s1 (by omega)) (nk rfl a7 (nk rfl apJ nn)))))),apK⟩
   ·exact ⟨ahN,(nk rfl a0 (nk rfl a1 (nu rfl rfl rfl rfl (s3 (by omega)) (nu rfl rfl rfl rfl (s1 (by omega)) (nk rfl a7 (nu rfl rfl rfl rfl (s7 (by omega)) nn)))))),amv⟩
theorem RP (a0:x.z 0=0) (a1:x.z 1=0) (a7:x.z 7=9) (hn:x.z 5 % 12=1) (b5:0≤x.z 5∧x.z 5≤1999) (b6:0≤x.z 6∧x.z 6≤1099511627776) (b8:0≤x.z 8∧x.z 8≤499) (b9: -1≤x.z 9∧x.z 9≤1099511627776) (b10: -1≤x.z 10∧x.z 10≤1099511627776) (b11: -1≤x.z 11∧x.z 11≤1999) (b12:0≤x.z 12∧x.z 12≤100) (bs:x.s.size≤200) (bn:x.fn≤4) (hf0:okV x.F.f 1760) (hf1:okV x.F.f 1761) (hf2:¬x.fl.getD 0 0=x.fl.getD 1 0→okV x.F.f 3561) (hf3:x.fl.getD 0 0=x.fl.getD 1 0→x.f 61=x.f 60):vK x:=by
 by_cases h116:x.z 11= -1
 ·exact ⟨ahO,(nk rfl a0 (nk rfl a1 (nu rfl rfl rfl rfl (s5 (by omega)) (nu rfl rfl rfl rfl (s1 (by omega)) (nk rfl a7 (nu rfl rfl rfl rfl (s8 (by omega)) (nk rfl h116 nn))))))),amw⟩
 ·by_cases atC:x.z 12≤15
  ·by_cases apM:x.z 5=13
   ·exact ⟨ahP,(nk rfl a0 (nk rfl a1 (nk rfl apM (nu rfl rfl rfl rfl (s1 (by omega)) (nk rfl a7 (nu rfl rfl rfl rfl (s8 (by omega)) (nu rfl rfl rfl rfl (jW (by omega)) (nu rfl rfl rfl rfl (s24 (by omega)) nn)))))))),amx⟩
   ·by_cases amy:x.z 5=1
    ·by_cases apN:x.z 8=0
     ·exact ⟨amz,(nk rfl a0 (nk rfl a1 (nk rfl amy (nu rfl rfl rfl rfl (s1 (by omega)) (nk rfl a7 (nk rfl apN (nu rfl rfl rfl rfl (jW (by omega)) (nu rfl rfl rfl rfl (s24 (by omega)) nn)))))))),apO⟩
     ·exact ⟨ahQ,(nk rfl a0 (nk rfl a1 (nk rfl amy (nu rfl rfl rfl rfl (s1 (by omega)) (nk rfl a7 (nu rfl rfl rfl rfl (s7 (by omega)) (nu rfl rfl rfl rfl (jW (by omega)) (nu rfl rfl rfl rfl (s24 (by omega)) nn)))))))),amA⟩
    ·by_cases h112:x.z 8=0
     ·exact ⟨amB,(nk rfl a0 (nk rfl a1 (nu rfl rfl rfl rfl (s3 (by omega)) (nu rfl rfl rfl rfl (s1 (by omega)) (nk rfl a7 (nk rfl h112 (nu rfl rfl rfl rfl (jW (by omega)) (nu rfl rfl rfl rfl (s24 (by omega)) nn)))))))),apP⟩
     ·exact ⟨ahR,(nk rfl a0 (nk rfl a1 (nu rfl rfl rfl rfl (s3 (by omega)) (nu rfl rfl rfl rfl (s1 (by omega)) (nk rfl a7 (nu rfl rfl rfl rfl (s7 (by omega)) (nu rfl rfl rfl rfl (jW (by omega)) (nu rfl rfl rfl rfl (s24 (by omega)) nn)))))))),amC⟩
  ·exact ⟨ahS,(nk rfl a0 (nk rfl a1 (nu rfl rfl rfl rfl (s5 (by omega)) (nu rfl rfl rfl rfl (s1 (by omega)) (nk rfl a7 (nu rfl rfl rfl rfl (s8 (by omega)) (nu rfl rfl rfl rfl (jW (by omega)) (nu rfl rfl rfl rfl (s25 (by omega)) nn)))))))),amD⟩
end Go.Proofs.YtnegekppaoedgaaGreatDoor.Ci
