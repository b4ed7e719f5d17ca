/-
The cases of an input, put together.
-/
import Derived.Test.YtnegekppaoedgaaGreatDoorQ13
import Derived.Test.YtnegekppaoedgaaGreatDoorGJ0
import Derived.Test.YtnegekppaoedgaaGreatDoorGJ1
import Derived.Shelf.Lays2
import Derived.Shelf.Slices.Clone
import Derived.Ground.Names2Prog
set_option linter.all false
namespace Go.Proofs.YtnegekppaoedgaaGreatDoor.Ci
open Go.RowKit Go.Shelf
variable [fE] {x : qM}
theorem ads (a0:x.z 0=1) (a1:0≤x.z 1∧x.z 1≤1):vK x:=by
 exact ⟨ac6,(nk rfl a0 (nu rfl rfl rfl rfl (s10 (by omega)) nn)),alb⟩
theorem adt (a0:x.z 0=2) (a1:0≤x.z 1∧x.z 1≤1) (b15:0≤x.z 15∧x.z 15≤99999) (b16:0≤x.z 16∧x.z 16≤1999) (b13:x.z 16≠13∨x.z 16=13):vK x:=by
 by_cases h119:x.z 1=0
 ·by_cases auL:x.z 16 % 12=0
  ·exact ⟨WL,(nk rfl a0 (nk rfl h119 (nu rfl rfl rfl rfl (s13 (by omega)) (nu rfl rfl rfl rfl (s4 (by omega)) nn)))),ahc⟩
  ·exact ⟨WM,(nk rfl a0 (nk rfl h119 (nc (nR 12 rfl rfl rfl (by decide) rfl (by omega) (by omega) (s12 (by omega))) nn))),ahd⟩
 ·by_cases auM:x.z 16 % 12=1
  ·exact ⟨WO,(nk rfl a0 (nk rfl (show x.z 1=1 by omega) (nu rfl rfl rfl rfl (s13 (by omega)) (nu rfl rfl rfl rfl (s5 (by omega)) nn)))),ahe⟩
  ·exact ⟨WQ,(nk rfl a0 (nk rfl (show x.z 1=1 by omega) (nc (nR 11 rfl rfl rfl (by decide) rfl (by omega) (by omega) (s11 (by omega))) nn))),ahf⟩
theorem YH (a0:x.z 0=3) (a1:x.z 1=0) (b20:0≤x.z 20∧x.z 20≤4) (b21:0≤x.z 21∧x.z 21≤199) (b22:0≤x.z 22∧x.z 22≤199):vK x:=by
 by_cases YI:x.z 20=0
 ·by_cases auN:x.z 21≤2
  ·by_cases auO:x.z 22≤2
   ·by_cases h122:x.z 22=0
    ·by_cases arS:x.z 21=0
     ·exact ⟨Fp,(nk rfl a0 (nk rfl a1 (nk rfl YI (nk rfl arS (nk rfl h122 nn))))),TT⟩
     ·by_cases arU:x.z 21=1
      ·exact ⟨Fq,(nk rfl a0 (nk rfl a1 (nk rfl YI (nk rfl arU (nk rfl h122 nn))))),TU⟩
      ·exact ⟨Fv,(nk rfl a0 (nk rfl a1 (nk rfl YI (nk rfl (show x.z 21=2 by omega) (nk rfl h122 nn))))),TV⟩
    ·exact ⟨JC,(nk rfl a0 (nk rfl a1 (nk rfl YI (nu rfl rfl rfl rfl (s15 (by omega)) (nu rfl rfl rfl rfl (s16 (by omega)) nn))))),Yu⟩
   ·exact ⟨JB,(nk rfl a0 (nk rfl a1 (nk rfl YI (nu rfl rfl rfl rfl (s15 (by omega)) (nu rfl rfl rfl rfl (s14 (by omega)) nn))))),Yt⟩
  ·exact ⟨JA,(nk rfl a0 (nk rfl a1 (nk rfl YI (nu rfl rfl rfl rfl (s14 (by omega)) nn)))),Yr⟩
 ·by_cases YJ:x.z 20=1
  ·by_cases auP:x.z 21≤2
   ·by_cases h128:x.z 22≤2
    ·by_cases h127:x.z 22=0
     ·by_cases arV:x.z 21=0
      ·exact ⟨Fz,(nk rfl a0 (nk rfl a1 (nk rfl YJ (nk rfl arV (nk rfl h127 nn))))),TW⟩
      ·by_cases arW:x.z 21=1
       ·exact ⟨FB,(nk rfl a0 (nk rfl a1 (nk rfl YJ (nk rfl arW (nk rfl h127 nn))))),TY⟩
       ·exact ⟨FC,(nk rfl a0 (nk rfl a1 (nk rfl YJ (nk rfl (show x.z 21=2 by omega) (nk rfl h127 nn))))),Ua⟩
     ·exact ⟨JF,(nk rfl a0 (nk rfl a1 (nk rfl YJ (nu rfl rfl rfl rfl (s15 (by omega)) (nu rfl rfl rfl rfl (s16 (by omega)) nn))))),Yx⟩
    ·exact ⟨JE,(nk rfl a0 (nk rfl a1 (nk rfl YJ (nu rfl rfl rfl rfl (s15 (by omega)) (nu rfl rfl rfl rfl (s14 (by omega)) nn))))),Yw⟩
   ·exact ⟨JD,(nk rfl a0 (nk rfl a1 (nk rfl YJ (nu rfl rfl rfl rfl (s14 (by omega)) nn)))),Yv⟩
  ·by_cases Gn:x.z 20=2
   ·by_cases auQ:x.z 21≤2
    ·by_cases auR:x.z 22≤2
     ·by_cases als:x.z 21=0
      ·by_cases arX:x.z 22=0
       ·exact ⟨FD,(nk rfl a0 (nk rfl a1 (nk rfl Gn (nk rfl als (nk rfl arX nn))))),Ub⟩
       ·by_cases arY:x.z 22=1
        ·exact ⟨FH,(nk rfl a0 (nk rfl a1 (nk rfl Gn (nk rfl als (nk rfl arY nn))))),Uc⟩
        ·exact ⟨FI,(nk rfl a0 (nk rfl a1 (nk rfl Gn (nk rfl als (nk rfl (show x.z 22=2 by omega) nn))))),Ud⟩
      ·by_cases alu:x.z 21=1
       ·by_cases arZ:x.z 22=0
        ·exact ⟨FK,(nk rfl a0 (nk rfl a1 (nk rfl Gn (nk rfl alu (nk rfl arZ nn))))),Ue⟩
        ·by_cases ar0:x.z 22=1
         ·exact ⟨FM,(nk rfl a0 (nk rfl a1 (nk rfl Gn (nk rfl alu (nk rfl ar0 nn))))),Uf⟩
         ·exact ⟨FN,(nk rfl a0 (nk rfl a1 (nk rfl Gn (nk rfl alu (nk rfl (show x.z 22=2 by omega) nn))))),Ug⟩
       ·by_cases ar1:x.z 22=0
        ·exact ⟨FP,(nk rfl a0 (nk rfl a1 (nk rfl Gn (nk rfl (show x.z 21=2 by omega) (nk rfl ar1 nn))))),Uh⟩
        ·by_cases ar2:x.z 22=1
         ·exact ⟨FQ,(nk rfl a0 (nk rfl a1 (nk rfl Gn (nk rfl (show x.z 21=2 by omega) (nk rfl ar2 nn))))),Ui⟩
         ·exact ⟨FT,(nk rfl a0 (nk rfl a1 (nk rfl Gn (nk rfl (show x.z 21=2 by omega) (nk rfl (show x.z 22=2 by omega) nn))))),Uj⟩
     ·exact ⟨JH,(nk rfl a0 (nk rfl a1 (nk rfl Gn (nu rfl rfl rfl rfl (s15 (by omega)) (nu rfl rfl rfl rfl (s14 (by omega)) nn))))),Yz⟩
    ·exact ⟨JG,(nk rfl a0 (nk rfl a1 (nk rfl Gn (nu rfl rfl rfl rfl (s14 (by omega)) nn)))),Yy⟩
   ·by_cases Gp:x.z 20=3
    ·by_cases auS:x.z 21≤2
     ·by_cases auT:x.z 22≤2
      ·by_cases alv:x.z 21=0
       ·by_cases ar4:x.z 22=0
        ·exact ⟨FU,(nk rfl a0 (nk rfl a1 (nk rfl Gp (nk rfl alv (nk rfl ar4 nn))))),Uk⟩
        ·by_cases ar5:x.z 22=1
         ·exact ⟨FV,(nk rfl a0 (nk rfl a1 (nk rfl Gp (nk rfl alv (nk rfl ar5 nn))))),Ul⟩
         ·exact ⟨FW,(nk rfl a0 (nk rfl a1 (nk rfl Gp (nk rfl alv (nk rfl (show x.z 22=2 by omega) nn))))),Um⟩
       ·by_cases alx:x.z 21=1
        ·by_cases ar6:x.z 22=0
         ·exact ⟨FX,(nk rfl a0 (nk rfl a1 (nk rfl Gp (nk rfl alx (nk rfl ar6 nn))))),Un⟩
         ·by_cases ar7:x.z 22=1
          ·exact ⟨FY,(nk rfl a0 (nk rfl a1 (nk rfl Gp (nk rfl alx (nk rfl ar7 nn))))),Uo⟩
          ·exact ⟨FZ,(nk rfl a0 (nk rfl a1 (nk rfl Gp (nk rfl alx (nk rfl (show x.z 22=2 by omega) nn))))),Ur⟩
        ·by_cases ar8:x.z 22=0
         ·exact ⟨F5,(nk rfl a0 (nk rfl a1 (nk rfl Gp (nk rfl (show x.z 21=2 by omega) (nk rfl ar8 nn))))),Us⟩
         ·by_cases ar9:x.z 22=1
          ·exact ⟨F6,(nk rfl a0 (nk rfl a1 (nk rfl Gp (nk rfl (show x.z 21=2 by omega) (nk rfl ar9 nn))))),Ut⟩
          ·exact ⟨F7,(nk rfl a0 (nk rfl a1 (nk rfl Gp (nk rfl (show x.z 21=2 by omega) (nk rfl (show x.z 22=2 by omega) nn))))),Uu⟩
      ·exact ⟨JJ,(nk rfl a0 (nk rfl a1 (nk rfl Gp (nu rfl rfl rfl rfl (s15 (by omega)) (nu rfl rfl rfl rfl (s14 (by omega)) nn))))),YB⟩
     ·exact ⟨JI,(nk rfl a0 (nk rfl a1 (nk rfl Gp (nu rfl rfl rfl rfl (s14 (by omega)) nn)))),YA⟩
    ·by_cases auU:x.z 21≤2
     ·by_cases auV:x.z 22≤2
      ·by_cases aly:x.z 21=0
       ·by_cases asa:x.z 22=0
        ·exact ⟨F8,(nk rfl a0 (nk rfl a1 (nk rfl (show x.z 20=4 by omega) (nk rfl aly (nk rfl asa nn))))),Uw⟩
        ·by_cases asb:x.z 22=1
         ·exact ⟨F9,(nk rfl a0 (nk rfl a1 (nk rfl (show x.z 20=4 by omega) (nk rfl aly (nk rfl asb nn))))),Ux⟩
         ·exact ⟨Gf,(nk rfl a0 (nk rfl a1 (nk rfl (show x.z 20=4 by omega) (nk rfl aly (nk rfl (show x.z 22=2 by omega) nn))))),Uy⟩
       ·by_cases alz:x.z 21=1
        ·by_cases asc:x.z 22=0
         ·exact ⟨Gg,(nk rfl a0 (nk rfl a1 (nk rfl (show x.z 20=4 by omega) (nk rfl alz (nk rfl asc nn))))),Uz⟩
         ·by_cases ase:x.z 22=1
          ·exact ⟨Gh,(nk rfl a0 (nk rfl a1 (nk rfl (show x.z 20=4 by omega) (nk rfl alz (nk rfl ase nn))))),UC⟩
          ·exact ⟨Gi,(nk rfl a0 (nk rfl a1 (nk rfl (show x.z 20=4 by omega) (nk rfl alz (nk rfl (show x.z 22=2 by omega) nn))))),UD⟩
        ·by_cases asf:x.z 22=0
         ·exact ⟨Gj,(nk rfl a0 (nk rfl a1 (nk rfl (show x.z 20=4 by omega) (nk rfl (show x.z 21=2 by omega) (nk rfl asf nn))))),UE⟩
         ·by_cases asg:x.z 22=1
          ·exact ⟨Gl,(nk rfl a0 (nk rfl a1 (nk rfl (show x.z 20=4 by omega) (nk rfl (show x.z 21=2 by omega) (nk rfl asg nn))))),UF⟩
          ·exact ⟨Gm,(nk rfl a0 (nk rfl a1 (nk rfl (show x.z 20=4 by omega) (nk rfl (show x.z 21=2 by omega) (nk rfl (show x.z 22=2 by omega) nn))))),UG⟩
      ·exact ⟨JL,(nk rfl a0 (nk rfl a1 (nk rfl (show x.z 20=4 by omega) (nu rfl rfl rfl rfl (s15 (by omega)) (nu rfl rfl rfl rfl (s14 (by omega)) nn))))),YD⟩
     ·exact ⟨JK,(nk rfl a0 (nk rfl a1 (nk rfl (show x.z 20=4 by omega) (nu rfl rfl rfl rfl (s14 (by omega)) nn)))),YC⟩
theorem QY (a0:x.z 0=4) (a1:x.z 1=0) (b23:0≤x.z 23∧x.z 23≤1073741824) (b24:x.z 24=0):vK x:=by
 exact ⟨JM,(nk rfl a0 (nk rfl a1 (nu rfl rfl rfl rfl (s17 (by omega)) (nk rfl b24 nn)))),YE⟩
theorem adu (a0:x.z 0=5) (a1:x.z 1=0) (b27:0≤x.z 27∧x.z 27≤99999):vK x:=by
 exact ⟨ac7,(nk rfl a0 (nk rfl a1 (nu rfl rfl rfl rfl (s13 (by omega)) nn))),alc⟩
theorem adv (a0:x.z 0=6) (a1:x.z 1=0) (b4:0≤x.z 4∧x.z 4≤1099511627776):vK x:=by
 exact ⟨ac8,(nk rfl a0 (nk rfl a1 (nu rfl rfl rfl rfl (s1 (by omega)) nn))),ald⟩
theorem YK (a0:x.z 0=7) (a1:x.z 1=0) (b31:0≤x.z 31∧x.z 31≤99999):vK x:=by
 exact ⟨WR,(nk rfl a0 (nk rfl a1 (nu rfl rfl rfl rfl (s13 (by omega)) nn))),ahg⟩
theorem adw (a0:x.z 0=8) (a1:0≤x.z 1∧x.z 1≤1) (b2:0≤x.z 2∧x.z 2≤99999):vK x:=by
 exact ⟨ac9,(nk rfl a0 (nu rfl rfl rfl rfl (s10 (by omega)) (nu rfl rfl rfl rfl (s13 (by omega)) nn))),ale⟩
theorem adx (a0:x.z 0=9) (a1:x.z 1=0) (bu:x.un≤12):vK x:=by
 by_cases auX:x.un=2
 ·have hu:=auX
  have hlen:=x.Xl
  rw [hu] at hlen
  obtain ⟨v0,v1,hl⟩:∃v0 v1,x.ul= [v0,v1]:=by
   match x.ul,hlen with
   | [v0,v1],_=> exact ⟨v0,v1,rfl⟩
  cases v0 with
  | false=>
   cases v1 with
   | false=> exact ⟨WT,(nk rfl a0 (nk rfl a1 (nc (WC rfl rfl (s41 (by omega)) hu rfl rfl hl) nn))),ahi⟩
   | true=> exact ⟨WV,(nk rfl a0 (nk rfl a1 (nc (WC rfl rfl (s43 (by omega)) hu rfl rfl hl) nn))),ahk⟩
  | true=>
   cases v1 with
   | false=> exact ⟨WU,(nk rfl a0 (nk rfl a1 (nc (WC rfl rfl (s42 (by omega)) hu rfl rfl hl) nn))),ahj⟩
   | true=> exact ⟨WW,(nk rfl a0 (nk rfl a1 (nc (WC rfl rfl (s44 (by omega)) hu rfl rfl hl) nn))),ahl⟩
 ·exact ⟨WS,(nk rfl a0 (nk rfl a1 (nc (nP rfl rfl (by decide) (s18 (by omega))) nn))),ahh⟩
end Go.Proofs.YtnegekppaoedgaaGreatDoor.Ci
namespace Go.Proofs.YtnegekppaoedgaaGreatDoor
open Go.RowKit
theorem WY {l:List Int} (h:l.all su=true) (j:Nat):0≤l.getD j 0∧l.getD j 0≤1073741824:=by
 rw [List.getD_eq_getElem?_getD]
 cases hj:l[j]? with
 | none=> simp
 | some n=>
  have:=List.all_eq_true.1 h n (List.mem_of_getElem? hj)
  unfold su at this
  simpa using this
theorem alA [Ci.fE] {A:Nat→Prop} {W:World} {a:ak} {x:Ci.qM} (h:qC A W a x) (hr:gK a) (hn:a.Net≤1) (hraw:a.Kind=0→a.Raw.Account % 12≤1) (hs:a.Raw.Text.size≤200):Ci.vK x:=by
 obtain ⟨h1,h2⟩:=hr
 have hz:x.z=GR a:=h.z
 have hfn:x.fn=a.Raw.Files.length:=by rw [←h.fl];exact x.hfl.symm
 have hun:x.un=a.Up.length:=by rw [←h.ul];exact x.Xl.symm
 by_cases hk:0≤a.Kind∧a.Kind≤9
 ·have:a.Kind=0∨a.Kind=1∨a.Kind=2∨a.Kind=3∨a.Kind=4∨a.Kind=5∨a.Kind=6∨a.Kind=7∨a.Kind=8∨a.Kind=9:=by omega
  rcases this with e | e | e | e | e | e | e | e | e | e
  ·have hw:=hraw e
   have h1':vO a.Raw=true:=by
    have:okB a=dH a.Raw:=by unfold okB;rw [e];rfl
    rw [this,iw] at h1
    exact Option.some.inj h1
   unfold vO at h1'
   rw [Bool.and_eq_true,decide_eq_true_eq] at h1'
   obtain ⟨⟨q5,q6,q7,q8,q9,q10,q11,q12,q13,q14⟩,q15⟩:=h1'
   have aoR:a.Net=0:=by
    rw [←h2]
    unfold iF
    rw [e]
    rfl
   have a0:x.z 0=0:=by rw [hz];exact e
   have a1:x.z 1=0:=by rw [hz];exact aoR
   have b5:0≤x.z 5∧x.z 5≤1999:=by rw [hz];exact q5
   have b6:0≤x.z 6∧x.z 6≤1099511627776:=by rw [hz];exact q6
   have b7:0≤x.z 7∧x.z 7≤9:=by rw [hz];exact q7
   have b8:0≤x.z 8∧x.z 8≤499:=by rw [hz];exact q8
   have b9: -1≤x.z 9∧x.z 9≤1099511627776:=by rw [hz];exact q9
   have b10: -1≤x.z 10∧x.z 10≤1099511627776:=by rw [hz];exact q10
   have b11: -1≤x.z 11∧x.z 11≤1999:=by rw [hz];exact q11
   have b12:0≤x.z 12∧x.z 12≤100:=by rw [hz];exact q12
   have bs:x.s.size≤200:=by rw [h.s];exact hs
   have bn:x.fn≤4:=by rw [hfn];omega
   have g0:=WY q15 0
   have g1:=WY q15 1
   have hfl:=h.fl
   rw [←hfl] at g0 g1
   have hf0:Ci.okV x.F.f 1760:=Ci.rX (m:=x.fl.getD 0 0) (Ci.s17 g0) rfl
   have hf1:Ci.okV x.F.f 1761:=Ci.rX (m:=x.fl.getD 1 0) (Ci.s17 g1) rfl
   have hf2:¬x.fl.getD 0 0=x.fl.getD 1 0→Ci.okV x.F.f 3561:=fun hne=> Ci.acX (i:=3561) (t:=35) (j:=60) (m:=x.fl.getD 1 0) (md:=none) rfl rfl rfl g1 (fun r hr=> by cases hr) fun he=> by
    injection (show Value.int .i64 (x.fl.getD 0 0)=Value.int .i64 (x.fl.getD 1 0) from he) with _ he
    exact hne he
   have hf3:x.fl.getD 0 0=x.fl.getD 1 0→x.f 61=x.f 60:=fun he=> by
    show Value.int .i64 (x.fl.getD 1 0)=Value.int .i64 (x.fl.getD 0 0)
    rw [he]
   have hm:x.z 5 % 12=0∨x.z 5 % 12=1:=by
    have:x.z 5 % 12≤1:=by rw [hz];exact hw
    omega
   have h7:x.z 7=0∨x.z 7=1∨x.z 7=2∨x.z 7=3∨x.z 7=4∨x.z 7=5∨x.z 7=6∨x.z 7=7∨x.z 7=8∨x.z 7=9:=by omega
   rcases hm with hm | hm
   ·rcases h7 with c | c | c | c | c | c | c | c | c | c
    ·exact Ci.UH a0 a1 c hm b5 b6 b8 b9 b10 b11 b12 bs bn hf0 hf1 hf2 hf3
    ·exact Ci.UJ a0 a1 c hm b5 b6 b8 b9 b10 b11 b12 bs bn hf0 hf1 hf2 hf3
    ·exact Ci.UK a0 a1 c hm b5 b6 b8 b9 b10 b11 b12 bs bn hf0 hf1 hf2 hf3
    ·exact Ci.UL a0 a1 c hm b5 b6 b8 b9 b10 b11 b12 bs bn hf0 hf1 hf2 hf3
    ·exact Ci.UM a0 a1 c hm b5 b6 b8 b9 b10 b11 b12 bs bn hf0 hf1 hf2 hf3
    ·exact Ci.UN a0 a1 c hm b5 b6 b8 b9 b10 b11 b12 bs bn hf0 hf1 hf2 hf3
    ·exact Ci.UO a0 a1 c hm b5 b6 b8 b9 b10 b11 b12 bs bn hf0 hf1 hf2 hf3
    ·exact Ci.UQ a0 a1 c hm b5 b6 b8 b9 b10 b11 b12 bs bn hf0 hf1 hf2 hf3
    ·exact Ci.UR a0 a1 c hm b5 b6 b8 b9 b10 b11 b12 bs bn hf0 hf1 hf2 hf3
    ·exact Ci.UU a0 a1 c hm b5 b6 b8 b9 b10 b11 b12 bs bn hf0 hf1 hf2 hf3
   ·rcases h7 with c | c | c | c | c | c | c | c | c | c
    ·exact Ci.Ry a0 a1 c hm b5 b6 b8 b9 b10 b11 b12 bs bn hf0 hf1 hf2 hf3
    ·exact Ci.Rz a0 a1 c hm b5 b6 b8 b9 b10 b11 b12 bs bn hf0 hf1 hf2 hf3
    ·exact Ci.RD a0 a1 c hm b5 b6 b8 b9 b10 b11 b12 bs bn hf0 hf1 hf2 hf3
    ·exact Ci.RF a0 a1 c hm b5 b6 b8 b9 b10 b11 b12 bs bn hf0 hf1 hf2 hf3
    ·exact Ci.RG a0 a1 c hm b5 b6 b8 b9 b10 b11 b12 bs bn hf0 hf1 hf2 hf3
    ·exact Ci.RH a0 a1 c hm b5 b6 b8 b9 b10 b11 b12 bs bn hf0 hf1 hf2 hf3
    ·exact Ci.RI a0 a1 c hm b5 b6 b8 b9 b10 b11 b12 bs bn hf0 hf1 hf2 hf3
    ·exact Ci.RJ a0 a1 c hm b5 b6 b8 b9 b10 b11 b12 bs bn hf0 hf1 hf2 hf3
    ·exact Ci.RN a0 a1 c hm b5 b6 b8 b9 b10 b11 b12 bs bn hf0 hf1 hf2 hf3
    ·exact Ci.RP a0 a1 c hm b5 b6 b8 b9 b10 b11 b12 bs bn hf0 hf1 hf2 hf3
  ·rw [show okB a=some (decide ((0≤a.Net∧a.Net≤11)∧(0≤a.Event∧a.Event≤99999)∧(0≤a.N∧a.N≤19)∧(0≤a.Local∧a.Local≤1099511627776))) by unfold okB;rw [e];rfl] at h1
   have h1:=of_decide_eq_true (Option.some.inj h1)
   exact Ci.ads (by rw [hz];exact e) (by rw [hz];exact ⟨h1.1.1,hn⟩)
  ·rw [show okB a=some (decide ((0≤a.Net∧a.Net≤11)∧(0≤a.Note.Message∧a.Note.Message≤99999)∧(0≤a.Note.Who∧a.Note.Who≤1999)∧(1≤a.Note.Level∧a.Note.Level≤4)∧(a.Note.Step=0))) by unfold okB;rw [e];rfl] at h1
   have h1:=of_decide_eq_true (Option.some.inj h1)
   exact Ci.adt (by rw [hz];exact e) (by rw [hz];exact ⟨h1.1.1,hn⟩) (by rw [hz];exact h1.2.1) (by rw [hz];exact h1.2.2.1) (by omega)
  ·rw [show okB a=some (decide ((0≤a.Proof.Kind∧a.Proof.Kind≤4)∧(0≤a.Proof.A∧a.Proof.A≤199)∧(0≤a.Proof.B∧a.Proof.B≤199))) by unfold okB;rw [e];rfl] at h1
   have h1:=of_decide_eq_true (Option.some.inj h1)
   exact Ci.YH (by rw [hz];exact e) (by rw [hz];show a.Net=0;rw [←h2];unfold iF;rw [e];rfl) (by rw [hz];exact h1.1) (by rw [hz];exact h1.2.1) (by rw [hz];exact h1.2.2)
  ·rw [show okB a=some (decide ((0≤a.aB.Name∧a.aB.Name≤1073741824)∧(a.aB.Step=0))) by unfold okB;rw [e];rfl] at h1
   have h1:=of_decide_eq_true (Option.some.inj h1)
   exact Ci.QY (by rw [hz];exact e) (by rw [hz];show a.Net=0;rw [←h2];unfold iF;rw [e];rfl) (by rw [hz];exact h1.1) (by rw [hz];exact h1.2)
  ·rw [show okB a=some (decide ((0≤a.Hold.Id∧a.Hold.Id≤1099511627776)∧(0≤a.Hold.Event∧a.Hold.Event≤99999)∧(a.Hold.From=0)∧(a.Hold.To=0))) by unfold okB;rw [e];rfl] at h1
   have h1:=of_decide_eq_true (Option.some.inj h1)
   exact Ci.adu (by rw [hz];exact e) (by rw [hz];show a.Net=0;rw [←h2];unfold iF;rw [e];rfl) (by rw [hz];exact h1.2.1)
  ·rw [show okB a=some (decide (0≤a.N∧a.N≤1099511627776)) by unfold okB;rw [e];rfl] at h1
   have h1:=of_decide_eq_true (Option.some.inj h1)
   exact Ci.adv (by rw [hz];exact e) (by rw [hz];show a.Net=0;rw [←h2];unfold iF;rw [e];rfl) (by rw [hz];exact h1)
  ·rw [show okB a=some (decide ((0≤a.Order.Kind∧a.Order.Kind≤3)∧(0≤a.Order.Event∧a.Order.Event≤99999)∧(0≤a.Order.By∧a.Order.By≤1999)∧(a.Order.Step=0))) by unfold okB;rw [e];rfl] at h1
   have h1:=of_decide_eq_true (Option.some.inj h1)
   exact Ci.YK (by rw [hz];exact e) (by rw [hz];show a.Net=0;rw [←h2];unfold iF;rw [e];rfl) (by rw [hz];exact h1.2.1)
  ·rw [show okB a=some (decide ((0≤a.Net∧a.Net≤11)∧(0≤a.Event∧a.Event≤99999))) by unfold okB;rw [e];rfl] at h1
   have h1:=of_decide_eq_true (Option.some.inj h1)
   exact Ci.adw (by rw [hz];exact e) (by rw [hz];exact ⟨h1.1.1,hn⟩) (by rw [hz];exact h1.2)
  ·rw [show okB a=some (decide (0≤(a.Up.length:Int)∧(a.Up.length:Int)≤12)) by unfold okB;rw [e];rfl] at h1
   have h1:=of_decide_eq_true (Option.some.inj h1)
   exact Ci.adx (by rw [hz];exact e) (by rw [hz];show a.Net=0;rw [←h2];unfold iF;rw [e];rfl) (by rw [hun];omega)
 ·exfalso
  have:okB a=some false:=by
   unfold okB
   split <;> first | rfl | (exfalso;rename_i e;rw [e] at hk;exact hk (by decide))
  rw [this] at h1
  cases h1
end Go.Proofs.YtnegekppaoedgaaGreatDoor
namespace Go.Proofs
open Go.Shelf
def Tryz.laysClone_ren:Go.Shelf.Ren:=⟨fun | 15=> 60 | n=> n,fun | 22=> 22 | 3=> 3 | 4=> 4 | n=> n,fun | n=> n⟩
theorem Tryz.laysClone:Go.Proofs.Lays2.n15 Tryz.prog Tryz.laysClone_ren:={
 mixed:=by kernel_rfl
 f15:=Tryz.func60.trans (congrArg some (by kernel_rfl))
 t3:=Tryz.underlying3
 a3:=Tryz.isAgg3
 z3:=Tryz.sizeOf3
 v3:=Tryz.zeroValue3
 t4:=Tryz.underlying4
 a4:=Tryz.isAgg4
 z4:=Tryz.sizeOf4
 v4:=Tryz.zeroValue4
 t22:=Tryz.underlying22
 a22:=Tryz.isAgg22
 z22:=Tryz.sizeOf22
 v22:=Tryz.zeroValue22
 i3:=by kernel_rfl}
end Go.Proofs
namespace Go.Proofs.YtnegekppaoedgaaGreatDoor
open Go.RowKit Go.Shelf
theorem WZ {w w':World} {v:Value} {n:Nat} {zs:List Int} (h:w'.ownsRow w.heap.size 3 1 v n (zs.map (Value.int .i64))) (hv:v≠ .slice none 0 0) (hz:zs.length=n):
  ∃(g:Nat) (vals:Array Value) (T:TypeId) (k:Nat),v= .slice (some ⟨g,0,none⟩) n k∧w.heap.size≤g∧w'.heap[g]? =some (.cells vals T (0,0))∧n≤k∧k≤vals.size∧k≤maxLen∧∀j,j < n→vals[j]? =some (.int .i64 (zs.getD j 0)):=by
 rcases h.2 with ⟨e,_⟩ | ⟨g,cap,cur,e,h1,h2,h3,h4,h5,h6⟩
 ·exact absurd e hv
 ·refine ⟨g,cur,3,cap,e,h1,h2,h3,by omega,h4,fun j hj=> ?_⟩
  have:=congrArg (fun l=> l[j]?) h6
  simp only [List.getElem?_map] at this
  rw [List.getElem?_take_of_lt (by omega)] at this
  rw [←Array.getElem?_toList,this,List.getD_eq_getElem?_getD,List.getElem?_eq_getElem (by omega)]
  rfl
def Ny (w:World) (v:Value) (fl:List Int):Prop:=Calls Tryz.prog 60 #[v] w fun e w'=> ∃(g:Nat) (vals:Array Value) (T:TypeId) (k:Nat),e= .returned (.slice (some ⟨g,0,none⟩) fl.length k)∧w.heap.size≤g∧w'.heap[g]? =some (.cells vals T (0,0))∧fl.length≤k∧k≤vals.size∧k≤maxLen∧(∀j,j < fl.length→vals[j]? =some (.int .i64 (fl.getD j 0)))∧Below w.heap.size w w'
set_option maxRecDepth 100000 in
theorem UW (w:World) (ad:Addr) (c:Nat):Ny w (.slice (some ad) 0 c) []:=by
 have h:=Any.slices_Clone_int_zero (ρ:=Tryz.laysClone_ren) Tryz.laysClone ad c w
 have h:Calls Tryz.prog 60 #[.slice (some ad) 0 c] w fun e w'=> ∃v',e= .returned v'∧w'.ownsRow w.heap.size 3 1 v' 0 ([].map (Value.int .i64))∧v'≠ .slice none 0 0∧Below w.heap.size w w':=h
 refine h.mono ?_
 rintro e w' ⟨v,rfl,hrow,hv,hbel⟩
 obtain ⟨g,vals,T,k,e,q1,q2,q3,q4,q5,_⟩:=WZ hrow hv rfl
 exact ⟨g,vals,T,k,by rw [e];rfl,q1,q2,q3,q4,q5,fun j hj=> absurd hj (Nat.not_lt_zero j),hbel⟩
set_option maxRecDepth 100000 in
theorem UY (w:World) (b o c:Nat) (fl:List Int) (hl:fl.length≤2) (cell:∀j,j < fl.length→w.cell? ⟨b,o + j,none⟩=some (.int .i64 (fl.getD j 0))):Ny w (.slice (some ⟨b,o,none⟩) fl.length c) fl:=by
 have h:=Any.slices_Clone_int (ρ:=Tryz.laysClone_ren) Tryz.laysClone b o fl.length c fl w (Nat.le_refl _) (by omega) cell
 rw [List.take_length] at h
 have h:Calls Tryz.prog 60 #[.slice (some ⟨b,o,none⟩) fl.length c] w fun e w'=> ∃v',e= .returned v'∧w'.ownsRow w.heap.size 3 1 v' fl.length (fl.map (Value.int .i64))∧v'≠ .slice none 0 0∧Below w.heap.size w w':=h
 refine h.mono ?_
 rintro e w' ⟨v,rfl,hrow,hv,hbel⟩
 obtain ⟨g,vals,T,k,e,q1,q2,q3,q4,q5,q6⟩:=WZ hrow hv rfl
 exact ⟨g,vals,T,k,by rw [e],q1,q2,q3,q4,q5,q6,hbel⟩
theorem ady {A:Nat→Prop} {W w:World} {fl:List Int} {v:Value} (hr:aV A W (.fz (fl.map (encI .i64))) v) (hA:∀b,A b→b < W.heap.size) (hb:Below W.heap.size W w) (hnn:v≠ .slice none 0 0) (hl:fl.length≤2):Ny w v fl:=by
 generalize hes:fl.map (encI .i64)=es at hr
 cases hr with
 | fz0 ad c hc=>
  have hf:fl= []:=List.map_eq_nil_iff.1 hes
  subst hf
  cases ad with
  | none=>
   rw [hc rfl] at hnn
   exact absurd rfl hnn
  | some ad=> exact UW w ad c
 | fz _ b o sz c vs hs hsb hcap hc hrr=>
  have hlen:es.length=fl.length:=by rw [←hes,List.length_map]
  have hrel:∀j,(hj:j < fl.length)→es[j]? =some (encI .i64 (fl.getD j 0)):=fun j hj=> by
   rw [←hes,List.getElem?_map,List.getD_eq_getElem?_getD,List.getElem?_eq_getElem hj]
   rfl
  rw [hlen]
  refine UY w b o c fl hl fun j hj=> ?_
  have hsz:sz=1:=by
   rw [←hs _ (List.mem_of_getElem? (hrel j hj))]
   rfl
  subst hsz
  have q1:=hc j (by omega)
  have q2:=hrr j 0 _ (.v (.int .i64 (fl.getD j 0))) (hrel j hj) rfl
  rw [Nat.mul_one,Nat.add_zero] at q2
  rw [fG q2] at q1
  rw [World.cell?_of_block (w:=W) (hb.block b (hA b hsb))]
  exact q1
theorem adz {A:Nat→Prop} {W w:World} {a:ak} {x:Ci.qM} (h:qC A W a x) (hA:∀b,A b→b < W.heap.size) (hb:Below W.heap.size W w) {n:Nat} (hnn:x.F.f 14≠ .slice none 0 0) (hn:x.F.f 41= .int .i64 (n:Int)) (h2:n≤2):
  Calls Tryz.prog 60 #[x.F.f 14] w fun e w'=> ∃(g:Nat) (vals:Array Value) (T:TypeId) (k:Nat),e= .returned (.slice (some ⟨g,0,none⟩) n k)∧w.heap.size≤g∧w'.heap[g]? =some (.cells vals T (0,0))∧n≤k∧k≤vals.size∧k≤maxLen∧(∀j,j < n→vals[j]? =some (x.F.f (60 + j)))∧Below w.heap.size w w':=by
 have hfn:x.fn=n:=by
  injection (show Value.int .i64 (x.fn:Int)= .int .i64 (n:Int) from hn) with _ e
  omega
 have hlen:x.fl.length=n:=by rw [x.hfl,hfn]
 have hr:=h.rf
 rw [←h.fl] at hr
 have hc:=ady (v:= .slice x.fa x.fn x.fc) hr hA hb hnn (by omega)
 unfold Ny at hc
 rw [hlen] at hc
 refine Calls.mono hc ?_
 rintro e w' ⟨g,vals,T,k,q0,q1,q2,q3,q4,q5,q6,q7⟩
 refine ⟨g,vals,T,k,q0,q1,q2,q3,q4,q5,fun j hj=> ?_,q7⟩
 rw [q6 j hj]
 have:j=0∨j=1:=by omega
 rcases this with rfl | rfl <;> rfl
theorem QZ {A:Nat→Prop} {W w:World} {a:ak} {x:Ci.qM} (h:qC A W a x) (hI:Inv W) (hA:∀b,A b→b < W.heap.size) (hb:Below W.heap.size W w) {c:Bool} (hc:fO a=some c):
  Calls Tryz.prog 8 #[.agg (Ci.xs x.F)] w fun e w'=> e= .returned (.bool c)∧Below w.heap.size w w':=by
 have hx:=h.mono (A':=A) (W':=w) (fun _ h=> h) fun b hab=> hb.block b (hA b hab)
 refine xU (lD hc) (mP hI hb) (fun b hab=> Nat.lt_of_lt_of_le (hA b hab) hb.size) (.cons (.agg (by simp [Ci.xs]) fun j d v hd hv=> ?_) (.nil _))
 have hj:j < 35:=(List.getElem?_eq_some_iff.1 hd).1
 have hd:((ak.enc a).map AV.d)[j]? =some d:=hd
 rw [AZ,List.map_map,List.getElem?_map,List.getElem?_range hj] at hd
 unfold Ci.xs at hv
 rw [List.getElem?_toArray,List.getElem?_map,List.getElem?_range hj] at hv
 rw [←Option.some.inj hd,←Option.some.inj hv]
 exact .d (hx.rel j hj)
theorem ahn {A:Nat→Prop} {a:ak} {x:Ci.qM} [Ci.fE] {bs:Ci.Base} (h:qC A bs.w a x) (hI:Inv bs.w) (hA:∀k,A k→bs.F k) (hT:∀k,Tab k→bs.F k) {c:Bool} (hc:fO a=some c) (gb:Ci.GB bs):Ci.GX x.F c bs:=by
 have hx:∀w,Ci.dO bs w→qC A w a x:=fun w hb=> h.mono (fun _ h=> h) fun k hk=> hb.block k (hA k hk)
 have hw:∀w,Ci.dO bs w→Inv w:=fun w hb=> hI.keep fun k hk=> hb.block k (hT k hk)
 have hl:∀w,Ci.dO bs w→∀k,A k→k < w.heap.size:=fun w hb k hk=> Nat.lt_of_lt_of_le (bs.lt k (hA k hk)) hb.size
 exact ⟨gb,(lD hc).1,fun w hb=> QZ (hx w hb) (hw w hb) (hl w hb) (Below.refl _ _) hc,Tryz.call60,fun w n hb hnn hn h2=> adz (hx w hb) (hl w hb) (Below.refl _ _) hnn hn h2⟩
end Go.Proofs.YtnegekppaoedgaaGreatDoor
namespace Go.Proofs.YtnegekppaoedgaaGreatDoor
open Go.RowKit
theorem UZ {r:Ci.dG} (h:Ci.isArg r=true):Ci.isOk r=true:=by
 unfold Ci.isArg at h
 split at h
 ·show Bool.and _ _=true
  rw [h]
  rfl
 ·cases h
theorem alB {a:ak} (hr:gK a):0≤a.Net∧a.Net≤11:=by
 obtain ⟨h1,h2⟩:=hr
 by_cases hk:0≤a.Kind∧a.Kind≤9
 ·have zero:(iF a).Net=0→0≤a.Net∧a.Net≤11:=fun h=> by rw [h2] at h;omega
  have:a.Kind=0∨a.Kind=1∨a.Kind=2∨a.Kind=3∨a.Kind=4∨a.Kind=5∨a.Kind=6∨a.Kind=7∨a.Kind=8∨a.Kind=9:=by omega
  rcases this with e | e | e | e | e | e | e | e | e | e
  ·exact zero (by unfold iF;rw [e];rfl)
  ·rw [show okB a=some (decide ((0≤a.Net∧a.Net≤11)∧(0≤a.Event∧a.Event≤99999)∧(0≤a.N∧a.N≤19)∧(0≤a.Local∧a.Local≤1099511627776))) by unfold okB;rw [e];rfl] at h1
   exact (of_decide_eq_true (Option.some.inj h1)).1
  ·rw [show okB a=some (decide ((0≤a.Net∧a.Net≤11)∧(0≤a.Note.Message∧a.Note.Message≤99999)∧(0≤a.Note.Who∧a.Note.Who≤1999)∧(1≤a.Note.Level∧a.Note.Level≤4)∧(a.Note.Step=0))) by unfold okB;rw [e];rfl] at h1
   exact (of_decide_eq_true (Option.some.inj h1)).1
  ·exact zero (by unfold iF;rw [e];rfl)
  ·exact zero (by unfold iF;rw [e];rfl)
  ·exact zero (by unfold iF;rw [e];rfl)
  ·exact zero (by unfold iF;rw [e];rfl)
  ·exact zero (by unfold iF;rw [e];rfl)
  ·rw [show okB a=some (decide ((0≤a.Net∧a.Net≤11)∧(0≤a.Event∧a.Event≤99999))) by unfold okB;rw [e];rfl] at h1
   exact (of_decide_eq_true (Option.some.inj h1)).1
  ·exact zero (by unfold iF;rw [e];rfl)
 ·exfalso
  have:okB a=some false:=by
   unfold okB
   split <;> first | rfl | (exfalso;rename_i e;rw [e] at hk;exact hk (by decide))
  rw [this] at h1
  cases h1
theorem take_any {A:Nat→Prop} {a:ak} {x:Ci.qM} (hin:inR a) (hl:a.Raw.Files.length≤maxLen) (hup:a.Up.length≤maxLen) (hs:a.Raw.Text.size≤200):
  letI:=Ci.oM x.F x.ints
  ∀(bs:Ci.Base) (_:qC A bs.w a x) (_:Inv bs.w) (_:∀k,A k→bs.F k) (_:∀k,Tab k→bs.F k) (_:Ci.GB bs) (σ:Ci.Nm) (w:World) (vs:List Value),Ci.R bs σ Ci.Js Ci.take0 w→Ci.fU σ (Ci.app Ci.opn.args [Ci.rU]) vs→
   Calls Tryz.prog 12 (vs ++ [Value.agg (Ci.xs x.F)]).toArray w fun e w'=> ∃cs o' n,e= .returned (.tuple #[.agg cs,o',.int .i64 n])∧cs.size=13∧(∀u∈cs.toList,u.oneCell'=true)∧o'.oneCell'=true∧Ci.dO bs w'∧(¬gK a∨2≤a.Net∨(a.Kind=0∧2≤a.Raw.Account % 12)→o'= .slice none 0 0∧n=1):=by
 letI:=Ci.oM x.F x.ints
 intro bs h hI hA hT gb σ w vs hR hv
 have hU:=Ci.LG x.F x.ints
 obtain ⟨c,hc,hcr⟩:=right_eq a hin hl hup
 have hz:x.z=GR a:=h.z
 have fin:∀(l:List (Nat×Ci.CV)),Ci.needs x.F l→Ci.isOk (Ci.au c (Ci.aU l))=true→(¬gK a∨2≤a.Net∨(a.Kind=0∧2≤a.Raw.Account % 12)→Ci.isArg (Ci.au c (Ci.aU l))=true)→
   Calls Tryz.prog 12 (vs ++ [Value.agg (Ci.xs x.F)]).toArray w fun e w'=> ∃cs o' n,e= .returned (.tuple #[.agg cs,o',.int .i64 n])∧cs.size=13∧(∀u∈cs.toList,u.oneCell'=true)∧o'.oneCell'=true∧Ci.dO bs w'∧(¬gK a∨2≤a.Net∨(a.Kind=0∧2≤a.Raw.Account % 12)→o'= .slice none 0 0∧n=1):=fun l hn hok harg=> by
  refine (Ci.agq hU hn (ahn h hI hA hT hc gb) hR hv hok).mono ?_
  rintro e w' ⟨cs,o',n,rfl,h1,h2,h3,hb,ha⟩
  exact ⟨cs,o',n,rfl,h1,h2,h3,hb,fun hh=> ha (harg hh)⟩
 by_cases hr:gK a
 ·have e:c=true:=hcr.2 hr
  subst e
  have aoR:=alB hr
  by_cases hn:a.Net≤1
  ·by_cases hraw:a.Kind=0∧2≤a.Raw.Account % 12
   ·have h1:=hr.1
    have:okB a=dH a.Raw:=by unfold okB;rw [hraw.1];rfl
    rw [this,iw] at h1
    have h1:=Option.some.inj h1
    unfold vO at h1
    rw [Bool.and_eq_true,decide_eq_true_eq] at h1
    have q5:=h1.1.1
    have aoS:a.Net=0:=by
     rw [←hr.2]
     unfold iF
     rw [hraw.1]
     rfl
    have z0:x.z 0=0:=by rw [hz];exact hraw.1
    have z1:x.z 1=0:=by rw [hz];exact aoS
    have z5:0≤x.z 5∧x.z 5≤1999:=by rw [hz];exact q5
    have z5':2≤x.z 5 % 12:=by rw [hz];exact hraw.2
    refine fin Ci.QU (Ci.nc (Ci.nC rfl (show x.z 0=0 by omega)) (Ci.nc (Ci.nC rfl (show x.z 1=0 by omega)) (Ci.nc (Ci.nR 9 rfl rfl rfl (by decide) rfl (by omega) (by omega) (Ci.s9 (by omega))) Ci.nn))) (UZ Ci.QV) fun _=> Ci.QV
   ·obtain ⟨l,hl1,hl2⟩:=alA h hr hn (fun e=> by
     have:¬2≤a.Raw.Account % 12:=fun h=> hraw ⟨e,h⟩
     omega) hs
    exact fin l hl1 hl2 fun hh=> by
     rcases hh with hh | hh | hh
     ·exact absurd hr hh
     ·omega
     ·exact absurd hh hraw
  ·have z1:2≤x.z 1∧x.z 1≤11:=by
    rw [hz]
    show 2≤a.Net∧a.Net≤11
    omega
   exact fin Ci.aiA (Ci.nc (Ci.nU rfl rfl rfl rfl (Ci.s9 z1)) Ci.nn) (UZ Ci.aiB) fun _=> Ci.aiB
 ·have e:c=false:=by
   cases c with
   | false=> rfl
   | true=> exact absurd (hcr.1 rfl) hr
  subst e
  exact fin Ci.WI Ci.nn (UZ Ci.WJ) fun _=> Ci.WJ
end Go.Proofs.YtnegekppaoedgaaGreatDoor
