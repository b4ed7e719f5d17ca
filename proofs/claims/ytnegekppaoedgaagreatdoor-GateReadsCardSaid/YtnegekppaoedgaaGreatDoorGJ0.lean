/-
The cases of an input, put together.
-/
import Derived.Test.YtnegekppaoedgaaGreatDoorQ12
import Derived.Test.YtnegekppaoedgaaGreatDoorQGL0
import Derived.Test.YtnegekppaoedgaaGreatDoorQGL4
import Derived.Test.YtnegekppaoedgaaGreatDoorQGL8
import Derived.Test.YtnegekppaoedgaaGreatDoorQGL12
set_option linter.all false
namespace Go.Proofs.YtnegekppaoedgaaGreatDoor.Ci
open Go.RowKit Go.Shelf
variable [fE] {x : qM}
theorem UH (a0:x.z 0=0) (a1:x.z 1=0) (a7:x.z 7=0) (hn:x.z 5 % 12=0) (b5:0≤x.z 5∧x.z 5≤1999) (b6:0≤x.z 6∧x.z 6≤1099511627776) (b8:0≤x.z 8∧x.z 8≤499) (b9: -1≤x.z 9∧x.z 9≤1099511627776) (b10: -1≤x.z 10∧x.z 10≤1099511627776) (b11: -1≤x.z 11∧x.z 11≤1999) (b12:0≤x.z 12∧x.z 12≤100) (bs:x.s.size≤200) (bn:x.fn≤4) (hf0:okV x.F.f 1760) (hf1:okV x.F.f 1761) (hf2:¬x.fl.getD 0 0=x.fl.getD 1 0→okV x.F.f 3561) (hf3:x.fl.getD 0 0=x.fl.getD 1 0→x.f 61=x.f 60):vK x:=by
 by_cases h11:x.z 9= -1
 ·by_cases h5:x.z 10= -1
  ·by_cases h4:x.z 11= -1
   ·by_cases h3:x.s.size≤40
    ·by_cases h2:x.fn=0
     ·by_cases h1:x.f 14= .slice none 0 0
      ·have hnil:=h1
       exact ⟨adg,(nk rfl a0 (nk rfl a1 (nu rfl rfl rfl rfl (s4 (by omega)) (nu rfl rfl rfl rfl (s1 (by omega)) (nk rfl a7 (nu rfl rfl rfl rfl (s8 (by omega)) (nk rfl h11 (nk rfl h5 (nk rfl h4 (nw rfl rfl (s19 (by omega)) (nc (nN hnil) nn))))))))))),alj⟩
      ·have hnn:=h1
       exact ⟨adh,(nk rfl a0 (nk rfl a1 (nu rfl rfl rfl rfl (s4 (by omega)) (nu rfl rfl rfl rfl (s1 (by omega)) (nk rfl a7 (nu rfl rfl rfl rfl (s8 (by omega)) (nk rfl h11 (nk rfl h5 (nk rfl h4 (nw rfl rfl (s19 (by omega)) (nc (nF rfl rfl (s36 (by omega)) hnn) nn))))))))))),alk⟩
     ·exact ⟨adf,(nk rfl a0 (nk rfl a1 (nu rfl rfl rfl rfl (s4 (by omega)) (nu rfl rfl rfl rfl (s1 (by omega)) (nk rfl a7 (nu rfl rfl rfl rfl (s8 (by omega)) (nk rfl h11 (nk rfl h5 (nk rfl h4 (nw rfl rfl (s19 (by omega)) (nc (nF rfl rfl (s22 (by omega)) trivial) nn))))))))))),ali⟩
    ·exact ⟨ade,(nk rfl a0 (nk rfl a1 (nu rfl rfl rfl rfl (s4 (by omega)) (nu rfl rfl rfl rfl (s1 (by omega)) (nk rfl a7 (nu rfl rfl rfl rfl (s8 (by omega)) (nk rfl h11 (nk rfl h5 (nk rfl h4 (nw rfl rfl (s20 (by omega)) nn)))))))))),alh⟩
   ·exact ⟨adb,(nk rfl a0 (nk rfl a1 (nu rfl rfl rfl rfl (s4 (by omega)) (nu rfl rfl rfl rfl (s1 (by omega)) (nk rfl a7 (nu rfl rfl rfl rfl (s8 (by omega)) (nk rfl h11 (nk rfl h5 (nu rfl rfl rfl rfl (jW (by omega)) nn))))))))),alg⟩
  ·exact ⟨ada,(nk rfl a0 (nk rfl a1 (nu rfl rfl rfl rfl (s4 (by omega)) (nu rfl rfl rfl rfl (s1 (by omega)) (nk rfl a7 (nu rfl rfl rfl rfl (s8 (by omega)) (nk rfl h11 (nu rfl rfl rfl rfl (s1 (by omega)) nn)))))))),alf⟩
 ·by_cases h10:x.z 10= -1
  ·by_cases h9:x.z 11= -1
   ·by_cases h8:x.s.size≤40
    ·by_cases h7:x.fn=0
     ·by_cases h6:x.f 14= .slice none 0 0
      ·have hnil:=h6
       exact ⟨ado,(nk rfl a0 (nk rfl a1 (nu rfl rfl rfl rfl (s4 (by omega)) (nu rfl rfl rfl rfl (s1 (by omega)) (nk rfl a7 (nu rfl rfl rfl rfl (s8 (by omega)) (nu rfl rfl rfl rfl (s1 (by omega)) (nk rfl h10 (nk rfl h9 (nw rfl rfl (s19 (by omega)) (nc (nN hnil) nn))))))))))),alq⟩
      ·have hnn:=h6
       exact ⟨adp,(nk rfl a0 (nk rfl a1 (nu rfl rfl rfl rfl (s4 (by omega)) (nu rfl rfl rfl rfl (s1 (by omega)) (nk rfl a7 (nu rfl rfl rfl rfl (s8 (by omega)) (nu rfl rfl rfl rfl (s1 (by omega)) (nk rfl h10 (nk rfl h9 (nw rfl rfl (s19 (by omega)) (nc (nF rfl rfl (s36 (by omega)) hnn) nn))))))))))),alr⟩
     ·exact ⟨adn,(nk rfl a0 (nk rfl a1 (nu rfl rfl rfl rfl (s4 (by omega)) (nu rfl rfl rfl rfl (s1 (by omega)) (nk rfl a7 (nu rfl rfl rfl rfl (s8 (by omega)) (nu rfl rfl rfl rfl (s1 (by omega)) (nk rfl h10 (nk rfl h9 (nw rfl rfl (s19 (by omega)) (nc (nF rfl rfl (s22 (by omega)) trivial) nn))))))))))),alp⟩
    ·exact ⟨adl,(nk rfl a0 (nk rfl a1 (nu rfl rfl rfl rfl (s4 (by omega)) (nu rfl rfl rfl rfl (s1 (by omega)) (nk rfl a7 (nu rfl rfl rfl rfl (s8 (by omega)) (nu rfl rfl rfl rfl (s1 (by omega)) (nk rfl h10 (nk rfl h9 (nw rfl rfl (s20 (by omega)) nn)))))))))),alo⟩
   ·exact ⟨adk,(nk rfl a0 (nk rfl a1 (nu rfl rfl rfl rfl (s4 (by omega)) (nu rfl rfl rfl rfl (s1 (by omega)) (nk rfl a7 (nu rfl rfl rfl rfl (s8 (by omega)) (nu rfl rfl rfl rfl (s1 (by omega)) (nk rfl h10 (nu rfl rfl rfl rfl (jW (by omega)) nn))))))))),aln⟩
  ·exact ⟨adi,(nk rfl a0 (nk rfl a1 (nu rfl rfl rfl rfl (s4 (by omega)) (nu rfl rfl rfl rfl (s1 (by omega)) (nk rfl a7 (nu rfl rfl rfl rfl (s8 (by omega)) (nu rfl rfl rfl rfl (s1 (by omega)) (nu rfl rfl rfl rfl (s1 (by omega)) nn)))))))),alm⟩
theorem UJ (a0:x.z 0=0) (a1:x.z 1=0) (a7:x.z 7=1) (hn:x.z 5 % 12=0) (b5:0≤x.z 5∧x.z 5≤1999) (b6:0≤x.z 6∧x.z 6≤1099511627776) (b8:0≤x.z 8∧x.z 8≤499) (b9: -1≤x.z 9∧x.z 9≤1099511627776) (b10: -1≤x.z 10∧x.z 10≤1099511627776) (b11: -1≤x.z 11∧x.z 11≤1999) (b12:0≤x.z 12∧x.z 12≤100) (bs:x.s.size≤200) (bn:x.fn≤4) (hf0:okV x.F.f 1760) (hf1:okV x.F.f 1761) (hf2:¬x.fl.getD 0 0=x.fl.getD 1 0→okV x.F.f 3561) (hf3:x.fl.getD 0 0=x.fl.getD 1 0→x.f 61=x.f 60):vK x:=by
 exact ⟨aiC,(nk rfl a0 (nk rfl a1 (nu rfl rfl rfl rfl (s4 (by omega)) (nu rfl rfl rfl rfl (s1 (by omega)) (nk rfl a7 (nu rfl rfl rfl rfl (s8 (by omega)) nn)))))),aoq⟩
theorem UK (a0:x.z 0=0) (a1:x.z 1=0) (a7:x.z 7=2) (hn:x.z 5 % 12=0) (b5:0≤x.z 5∧x.z 5≤1999) (b6:0≤x.z 6∧x.z 6≤1099511627776) (b8:0≤x.z 8∧x.z 8≤499) (b9: -1≤x.z 9∧x.z 9≤1099511627776) (b10: -1≤x.z 10∧x.z 10≤1099511627776) (b11: -1≤x.z 11∧x.z 11≤1999) (b12:0≤x.z 12∧x.z 12≤100) (bs:x.s.size≤200) (bn:x.fn≤4) (hf0:okV x.F.f 1760) (hf1:okV x.F.f 1761) (hf2:¬x.fl.getD 0 0=x.fl.getD 1 0→okV x.F.f 3561) (hf3:x.fl.getD 0 0=x.fl.getD 1 0→x.f 61=x.f 60):vK x:=by
 exact ⟨aiD,(nk rfl a0 (nk rfl a1 (nu rfl rfl rfl rfl (s4 (by omega)) (nu rfl rfl rfl rfl (s1 (by omega)) (nk rfl a7 (nu rfl rfl rfl rfl (s8 (by omega)) nn)))))),aor⟩
theorem UL (a0:x.z 0=0) (a1:x.z 1=0) (a7:x.z 7=3) (hn:x.z 5 % 12=0) (b5:0≤x.z 5∧x.z 5≤1999) (b6:0≤x.z 6∧x.z 6≤1099511627776) (b8:0≤x.z 8∧x.z 8≤499) (b9: -1≤x.z 9∧x.z 9≤1099511627776) (b10: -1≤x.z 10∧x.z 10≤1099511627776) (b11: -1≤x.z 11∧x.z 11≤1999) (b12:0≤x.z 12∧x.z 12≤100) (bs:x.s.size≤200) (bn:x.fn≤4) (hf0:okV x.F.f 1760) (hf1:okV x.F.f 1761) (hf2:¬x.fl.getD 0 0=x.fl.getD 1 0→okV x.F.f 3561) (hf3:x.fl.getD 0 0=x.fl.getD 1 0→x.f 61=x.f 60):vK x:=by
 exact ⟨aiE,(nk rfl a0 (nk rfl a1 (nu rfl rfl rfl rfl (s4 (by omega)) (nu rfl rfl rfl rfl (s1 (by omega)) (nk rfl a7 (nu rfl rfl rfl rfl (s8 (by omega)) nn)))))),aos⟩
theorem UM (a0:x.z 0=0) (a1:x.z 1=0) (a7:x.z 7=4) (hn:x.z 5 % 12=0) (b5:0≤x.z 5∧x.z 5≤1999) (b6:0≤x.z 6∧x.z 6≤1099511627776) (b8:0≤x.z 8∧x.z 8≤499) (b9: -1≤x.z 9∧x.z 9≤1099511627776) (b10: -1≤x.z 10∧x.z 10≤1099511627776) (b11: -1≤x.z 11∧x.z 11≤1999) (b12:0≤x.z 12∧x.z 12≤100) (bs:x.s.size≤200) (bn:x.fn≤4) (hf0:okV x.F.f 1760) (hf1:okV x.F.f 1761) (hf2:¬x.fl.getD 0 0=x.fl.getD 1 0→okV x.F.f 3561) (hf3:x.fl.getD 0 0=x.fl.getD 1 0→x.f 61=x.f 60):vK x:=by
 exact ⟨aiF,(nk rfl a0 (nk rfl a1 (nu rfl rfl rfl rfl (s4 (by omega)) (nu rfl rfl rfl rfl (s1 (by omega)) (nk rfl a7 (nu rfl rfl rfl rfl (s8 (by omega)) nn)))))),aot⟩
theorem UN (a0:x.z 0=0) (a1:x.z 1=0) (a7:x.z 7=5) (hn:x.z 5 % 12=0) (b5:0≤x.z 5∧x.z 5≤1999) (b6:0≤x.z 6∧x.z 6≤1099511627776) (b8:0≤x.z 8∧x.z 8≤499) (b9: -1≤x.z 9∧x.z 9≤1099511627776) (b10: -1≤x.z 10∧x.z 10≤1099511627776) (b11: -1≤x.z 11∧x.z 11≤1999) (b12:0≤x.z 12∧x.z 12≤100) (bs:x.s.size≤200) (bn:x.fn≤4) (hf0:okV x.F.f 1760) (hf1:okV x.F.f 1761) (hf2:¬x.fl.getD 0 0=x.fl.getD 1 0→okV x.F.f 3561) (hf3:x.fl.getD 0 0=x.fl.getD 1 0→x.f 61=x.f 60):vK x:=by
 by_cases h15:x.z 11= -1
 ·exact ⟨aiG,(nk rfl a0 (nk rfl a1 (nu rfl rfl rfl rfl (s4 (by omega)) (nu rfl rfl rfl rfl (s1 (by omega)) (nk rfl a7 (nu rfl rfl rfl rfl (s8 (by omega)) (nk rfl h15 nn))))))),aou⟩
 ·by_cases La:x.z 11 % 12=0
  ·by_cases h12:x.z 11=x.z 5
   ·exact ⟨QX,(nk rfl a0 (nk rfl a1 (nu rfl rfl rfl rfl (s4 (by omega)) (nu rfl rfl rfl rfl (s1 (by omega)) (nk rfl a7 (nu rfl rfl rfl rfl (s8 (by omega)) (nc (ahG rfl rfl (by omega) (s4 (by omega))) nn))))))),adr⟩
   ·exact ⟨QW,(nk rfl a0 (nk rfl a1 (nu rfl rfl rfl rfl (s4 (by omega)) (nu rfl rfl rfl rfl (s1 (by omega)) (nk rfl a7 (nu rfl rfl rfl rfl (s8 (by omega)) (nc (nD rfl rfl rfl (by omega) (by omega)) nn))))))),adq⟩
  ·by_cases h13:x.z 11 % 12=1
   ·exact ⟨JO,(nk rfl a0 (nk rfl a1 (nu rfl rfl rfl rfl (s4 (by omega)) (nu rfl rfl rfl rfl (s1 (by omega)) (nk rfl a7 (nu rfl rfl rfl rfl (s8 (by omega)) (nu rfl rfl rfl rfl (s5 (by omega)) nn))))))),YG⟩
   ·exact ⟨WX,(nk rfl a0 (nk rfl a1 (nu rfl rfl rfl rfl (s4 (by omega)) (nu rfl rfl rfl rfl (s1 (by omega)) (nk rfl a7 (nu rfl rfl rfl rfl (s8 (by omega)) (nc (nR 9 rfl rfl rfl (by decide) rfl (by omega) (by omega) (s9 (by omega))) nn))))))),ahm⟩
theorem UO (a0:x.z 0=0) (a1:x.z 1=0) (a7:x.z 7=6) (hn:x.z 5 % 12=0) (b5:0≤x.z 5∧x.z 5≤1999) (b6:0≤x.z 6∧x.z 6≤1099511627776) (b8:0≤x.z 8∧x.z 8≤499) (b9: -1≤x.z 9∧x.z 9≤1099511627776) (b10: -1≤x.z 10∧x.z 10≤1099511627776) (b11: -1≤x.z 11∧x.z 11≤1999) (b12:0≤x.z 12∧x.z 12≤100) (bs:x.s.size≤200) (bn:x.fn≤4) (hf0:okV x.F.f 1760) (hf1:okV x.F.f 1761) (hf2:¬x.fl.getD 0 0=x.fl.getD 1 0→okV x.F.f 3561) (hf3:x.fl.getD 0 0=x.fl.getD 1 0→x.f 61=x.f 60):vK x:=by
 exact ⟨aov,(nk rfl a0 (nk rfl a1 (nu rfl rfl rfl rfl (s4 (by omega)) (nu rfl rfl rfl rfl (s1 (by omega)) (nk rfl a7 (nu rfl rfl rfl rfl (s8 (by omega)) nn)))))),arH⟩
theorem UQ (a0:x.z 0=0) (a1:x.z 1=0) (a7:x.z 7=7) (hn:x.z 5 % 12=0) (b5:0≤x.z 5∧x.z 5≤1999) (b6:0≤x.z 6∧x.z 6≤1099511627776) (b8:0≤x.z 8∧x.z 8≤499) (b9: -1≤x.z 9∧x.z 9≤1099511627776) (b10: -1≤x.z 10∧x.z 10≤1099511627776) (b11: -1≤x.z 11∧x.z 11≤1999) (b12:0≤x.z 12∧x.z 12≤100) (bs:x.s.size≤200) (bn:x.fn≤4) (hf0:okV x.F.f 1760) (hf1:okV x.F.f 1761) (hf2:¬x.fl.getD 0 0=x.fl.getD 1 0→okV x.F.f 3561) (hf3:x.fl.getD 0 0=x.fl.getD 1 0→x.f 61=x.f 60):vK x:=by
 by_cases h21:x.z 11= -1
 ·exact ⟨aiH,(nk rfl a0 (nk rfl a1 (nu rfl rfl rfl rfl (s4 (by omega)) (nu rfl rfl rfl rfl (s1 (by omega)) (nk rfl a7 (nu rfl rfl rfl rfl (s8 (by omega)) (nk rfl h21 nn))))))),aow⟩
 ·by_cases h20:x.z 5=0
  ·by_cases h16:x.z 8=0
   ·exact ⟨aoz,(nk rfl a0 (nk rfl a1 (nk rfl h20 (nu rfl rfl rfl rfl (s1 (by omega)) (nk rfl a7 (nk rfl h16 (nu rfl rfl rfl rfl (jW (by omega)) nn))))))),arI⟩
   ·exact ⟨aiK,(nk rfl a0 (nk rfl a1 (nk rfl h20 (nu rfl rfl rfl rfl (s1 (by omega)) (nk rfl a7 (nu rfl rfl rfl rfl (s7 (by omega)) (nu rfl rfl rfl rfl (jW (by omega)) nn))))))),aoC⟩
  ·by_cases h19:x.z 5=12
   ·by_cases h17:x.z 8=0
    ·exact ⟨aoF,(nk rfl a0 (nk rfl a1 (nk rfl h19 (nu rfl rfl rfl rfl (s1 (by omega)) (nk rfl a7 (nk rfl h17 (nu rfl rfl rfl rfl (jW (by omega)) nn))))))),arL⟩
    ·exact ⟨aiN,(nk rfl a0 (nk rfl a1 (nk rfl h19 (nu rfl rfl rfl rfl (s1 (by omega)) (nk rfl a7 (nu rfl rfl rfl rfl (s7 (by omega)) (nu rfl rfl rfl rfl (jW (by omega)) nn))))))),aoI⟩
   ·by_cases h18:x.z 8=0
    ·exact ⟨aoL,(nk rfl a0 (nk rfl a1 (nu rfl rfl rfl rfl (s2 (by omega)) (nu rfl rfl rfl rfl (s1 (by omega)) (nk rfl a7 (nk rfl h18 (nu rfl rfl rfl rfl (jW (by omega)) nn))))))),arO⟩
    ·exact ⟨aiQ,(nk rfl a0 (nk rfl a1 (nu rfl rfl rfl rfl (s2 (by omega)) (nu rfl rfl rfl rfl (s1 (by omega)) (nk rfl a7 (nu rfl rfl rfl rfl (s7 (by omega)) (nu rfl rfl rfl rfl (jW (by omega)) nn))))))),aoO⟩
theorem UR (a0:x.z 0=0) (a1:x.z 1=0) (a7:x.z 7=8) (hn:x.z 5 % 12=0) (b5:0≤x.z 5∧x.z 5≤1999) (b6:0≤x.z 6∧x.z 6≤1099511627776) (b8:0≤x.z 8∧x.z 8≤499) (b9: -1≤x.z 9∧x.z 9≤1099511627776) (b10: -1≤x.z 10∧x.z 10≤1099511627776) (b11: -1≤x.z 11∧x.z 11≤1999) (b12:0≤x.z 12∧x.z 12≤100) (bs:x.s.size≤200) (bn:x.fn≤4) (hf0:okV x.F.f 1760) (hf1:okV x.F.f 1761) (hf2:¬x.fl.getD 0 0=x.fl.getD 1 0→okV x.F.f 3561) (hf3:x.fl.getD 0 0=x.fl.getD 1 0→x.f 61=x.f 60):vK x:=by
 by_cases h26:x.z 5=0
 ·by_cases h22:x.z 8=0
  ·exact ⟨aoA,(nk rfl a0 (nk rfl a1 (nk rfl h26 (nu rfl rfl rfl rfl (s1 (by omega)) (nk rfl a7 (nk rfl h22 nn)))))),arJ⟩
  ·exact ⟨aiL,(nk rfl a0 (nk rfl a1 (nk rfl h26 (nu rfl rfl rfl rfl (s1 (by omega)) (nk rfl a7 (nu rfl rfl rfl rfl (s7 (by omega)) nn)))))),aoD⟩
 ·by_cases h25:x.z 5=12
  ·by_cases h23:x.z 8=0
   ·exact ⟨aoG,(nk rfl a0 (nk rfl a1 (nk rfl h25 (nu rfl rfl rfl rfl (s1 (by omega)) (nk rfl a7 (nk rfl h23 nn)))))),arM⟩
   ·exact ⟨aiO,(nk rfl a0 (nk rfl a1 (nk rfl h25 (nu rfl rfl rfl rfl (s1 (by omega)) (nk rfl a7 (nu rfl rfl rfl rfl (s7 (by omega)) nn)))))),aoJ⟩
  ·by_cases h24:x.z 8=0
   ·exact ⟨aoM,(nk rfl a0 (nk rfl a1 (nu rfl rfl rfl rfl (s2 (by omega)) (nu rfl rfl rfl rfl (s1 (by omega)) (nk rfl a7 (nk rfl h24 nn)))))),arP⟩
   ·exact ⟨aiR,(nk rfl a0 (nk rfl a1 (nu rfl rfl rfl rfl (s2 (by omega)) (nu rfl rfl rfl rfl (s1 (by omega)) (nk rfl a7 (nu rfl rfl rfl rfl (s7 (by omega)) nn)))))),aoP⟩
theorem UU (a0:x.z 0=0) (a1:x.z 1=0) (a7:x.z 7=9) (hn:x.z 5 % 12=0) (b5:0≤x.z 5∧x.z 5≤1999) (b6:0≤x.z 6∧x.z 6≤1099511627776) (b8:0≤x.z 8∧x.z 8≤499) (b9: -1≤x.z 9∧x.z 9≤1099511627776) (b10: -1≤x.z 10∧x.z 10≤1099511627776) (b11: -1≤x.z 11∧x.z 11≤1999) (b12:0≤x.z 12∧x.z 12≤100) (bs:x.s.size≤200) (bn:x.fn≤4) (hf0:okV x.F.f 1760) (hf1:okV x.F.f 1761) (hf2:¬x.fl.getD 0 0=x.fl.getD 1 0→okV x.F.f 3561) (hf3:x.fl.getD 0 0=x.fl.getD 1 0→x.f 61=x.f 60):vK x:=by
 by_cases h33:x.z 11= -1
 ·exact ⟨aiI,(nk rfl a0 (nk rfl a1 (nu rfl rfl rfl rfl (s4 (by omega)) (nu rfl rfl rfl rfl (s1 (by omega)) (nk rfl a7 (nu rfl rfl rfl rfl (s8 (by omega)) (nk rfl h33 nn))))))),aox⟩
 ·by_cases h32:x.z 12≤15
  ·by_cases h31:x.z 5=0
   ·by_cases h27:x.z 8=0
    ·exact ⟨aoB,(nk rfl a0 (nk rfl a1 (nk rfl h31 (nu rfl rfl rfl rfl (s1 (by omega)) (nk rfl a7 (nk rfl h27 (nu rfl rfl rfl rfl (jW (by omega)) (nu rfl rfl rfl rfl (s24 (by omega)) nn)))))))),arK⟩
    ·exact ⟨aiM,(nk rfl a0 (nk rfl a1 (nk rfl h31 (nu rfl rfl rfl rfl (s1 (by omega)) (nk rfl a7 (nu rfl rfl rfl rfl (s7 (by omega)) (nu rfl rfl rfl rfl (jW (by omega)) (nu rfl rfl rfl rfl (s24 (by omega)) nn)))))))),aoE⟩
   ·by_cases h30:x.z 5=12
    ·by_cases h28:x.z 8=0
     ·exact ⟨aoH,(nk rfl a0 (nk rfl a1 (nk rfl h30 (nu rfl rfl rfl rfl (s1 (by omega)) (nk rfl a7 (nk rfl h28 (nu rfl rfl rfl rfl (jW (by omega)) (nu rfl rfl rfl rfl (s24 (by omega)) nn)))))))),arN⟩
     ·exact ⟨aiP,(nk rfl a0 (nk rfl a1 (nk rfl h30 (nu rfl rfl rfl rfl (s1 (by omega)) (nk rfl a7 (nu rfl rfl rfl rfl (s7 (by omega)) (nu rfl rfl rfl rfl (jW (by omega)) (nu rfl rfl rfl rfl (s24 (by omega)) nn)))))))),aoK⟩
    ·by_cases h29:x.z 8=0
     ·exact ⟨aoN,(nk rfl a0 (nk rfl a1 (nu rfl rfl rfl rfl (s2 (by omega)) (nu rfl rfl rfl rfl (s1 (by omega)) (nk rfl a7 (nk rfl h29 (nu rfl rfl rfl rfl (jW (by omega)) (nu rfl rfl rfl rfl (s24 (by omega)) nn)))))))),arQ⟩
     ·exact ⟨aiS,(nk rfl a0 (nk rfl a1 (nu rfl rfl rfl rfl (s2 (by omega)) (nu rfl rfl rfl rfl (s1 (by omega)) (nk rfl a7 (nu rfl rfl rfl rfl (s7 (by omega)) (nu rfl rfl rfl rfl (jW (by omega)) (nu rfl rfl rfl rfl (s24 (by omega)) nn)))))))),aoQ⟩
  ·exact ⟨aiJ,(nk rfl a0 (nk rfl a1 (nu rfl rfl rfl rfl (s4 (by omega)) (nu rfl rfl rfl rfl (s1 (by omega)) (nk rfl a7 (nu rfl rfl rfl rfl (s8 (by omega)) (nu rfl rfl rfl rfl (jW (by omega)) (nu rfl rfl rfl rfl (s25 (by omega)) nn)))))))),aoy⟩
end Go.Proofs.YtnegekppaoedgaaGreatDoor.Ci
