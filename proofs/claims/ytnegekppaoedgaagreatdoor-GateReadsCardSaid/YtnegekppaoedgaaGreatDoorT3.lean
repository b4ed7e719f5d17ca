/-
The law, called with what came in: it answers true.
-/
import Derived.Test.YtnegekppaoedgaaGreatDoorLC
set_option linter.all false
namespace Go.Proofs.YtnegekppaoedgaaGreatDoor
open Go.RowKit
def aQ.Q (x:aQ):Prop:=(IntKind.i64.min≤x.Account∧x.Account≤IntKind.i64.max)∧(IntKind.i64.min≤x.Seq∧x.Seq≤IntKind.i64.max)∧(IntKind.i64.min≤x.Kind∧x.Kind≤IntKind.i64.max)∧(IntKind.i64.min≤x.dN∧x.dN≤IntKind.i64.max)∧(IntKind.i64.min≤x.On∧x.On≤IntKind.i64.max)∧(IntKind.i64.min≤x.Quote∧x.Quote≤IntKind.i64.max)∧(IntKind.i64.min≤x.Who∧x.Who≤IntKind.i64.max)∧(IntKind.i64.min≤x.N∧x.N≤IntKind.i64.max)∧(x.Text.size≤maxLen)∧(x.Files.length≤maxLen∧∀u1∈x.Files,(IntKind.i64.min≤u1∧u1≤IntKind.i64.max))
def dI.Q (x:dI):Prop:=(IntKind.i64.min≤x.Message∧x.Message≤IntKind.i64.max)∧(IntKind.i64.min≤x.Who∧x.Who≤IntKind.i64.max)∧(IntKind.i64.min≤x.Level∧x.Level≤IntKind.i64.max)∧(IntKind.i64.min≤x.Step∧x.Step≤IntKind.i64.max)∧True
def dh.Q (x:dh):Prop:=(IntKind.i64.min≤x.Kind∧x.Kind≤IntKind.i64.max)∧(IntKind.i64.min≤x.A∧x.A≤IntKind.i64.max)∧(IntKind.i64.min≤x.B∧x.B≤IntKind.i64.max)
def bD.Q (x:bD):Prop:=(IntKind.i64.min≤x.Name∧x.Name≤IntKind.i64.max)∧(IntKind.i64.min≤x.Step∧x.Step≤IntKind.i64.max)∧True
def dJ.Q (x:dJ):Prop:=(IntKind.i64.min≤x.Id∧x.Id≤IntKind.i64.max)∧(IntKind.i64.min≤x.Event∧x.Event≤IntKind.i64.max)∧(IntKind.i64.min≤x.From∧x.From≤IntKind.i64.max)∧(IntKind.i64.min≤x.To∧x.To≤IntKind.i64.max)
def dn.Q (x:dn):Prop:=(IntKind.i64.min≤x.Kind∧x.Kind≤IntKind.i64.max)∧(IntKind.i64.min≤x.Event∧x.Event≤IntKind.i64.max)∧(IntKind.i64.min≤x.By∧x.By≤IntKind.i64.max)∧(IntKind.i64.min≤x.Step∧x.Step≤IntKind.i64.max)
def ak.Q (x:ak):Prop:=(IntKind.i64.min≤x.Kind∧x.Kind≤IntKind.i64.max)∧(IntKind.i64.min≤x.Net∧x.Net≤IntKind.i64.max)∧(IntKind.i64.min≤x.Event∧x.Event≤IntKind.i64.max)∧(IntKind.i64.min≤x.Local∧x.Local≤IntKind.i64.max)∧(IntKind.i64.min≤x.N∧x.N≤IntKind.i64.max)∧(aQ.Q x.Raw)∧(dI.Q x.Note)∧(dh.Q x.Proof)∧(bD.Q x.aB)∧(dJ.Q x.Hold)∧(dn.Q x.Order)∧(x.Up.length≤maxLen∧∀u2∈x.Up,True)
theorem alI {A:Nat→Prop} {w:World} {a:ak} {v:Value} (h:Rel (G6 A w) (.agg (ak.av a)) v):∃fv uv,v= .agg (bW a fv uv)∧aV A w (.fz (a.Raw.Files.map (encI .i64))) fv∧aV A w (.fz (a.Up.map jo)) uv:=by
 cases h with
 | @agg _ us hl hj=>
  have hlen:us.size=35:=hl
  have hrel:∀j,(hj:j < 35)→aV A w (dOf a j) (us[j]'(by omega)):=fun j hj'=> by
   have hc:(ak.av a)[j]? =some (.d (dOf a j)):=by
    have e:ak.av a=(ak.enc a).map AV.d:=rfl
    rw [e,AZ,List.map_map,List.getElem?_map,List.getElem?_range hj']
    rfl
   have:=hj j _ _ hc (Array.getElem?_eq_getElem (by omega))
   cases this with
   | d h=> exact h
  obtain ⟨x,hx,e1,e2⟩:=RQ (hrel 14 (by omega)) (hrel 34 (by omega))
  have hus:us=Ci.xs x.F:=by
   apply Array.ext
   ·rw [hlen];simp [Ci.xs]
   ·intro j h1 h2
    have hj':j < 35:=by omega
    have e:(Ci.xs x.F)[j]'h2=x.f j:=by
     simp [Ci.xs]
     rfl
    rw [e]
    by_cases La:j=14
    ·subst La;exact e1.symm
    by_cases h34:j=34
    ·subst h34;exact e2.symm
    have r1:=hrel j hj'
    have r2:=hx.rel j hj'
    unfold dOf at r1 r2
    split at r1
    ·rw [fG r1,fG r2]
    ·exact absurd rfl La
    ·rw [fG r1,fG r2]
    ·rw [fG r1,fG r2]
    ·exact absurd rfl h34
    ·rename_i n1 n2 n3 n4 n5
     have r2':aV A w (.v (.int .i64 (GR a j))) (x.f j):=by
      revert r2
      split <;> first
       | exact absurd rfl n1
       | exact absurd rfl n2
       | exact absurd rfl n3
       | exact absurd rfl n4
       | exact absurd rfl n5
       | exact fun h=> h
     rw [fG r1,fG r2']
  exact ⟨_,_,by rw [hus,adT hx],hx.rel 14 (by omega),hx.rel 34 (by omega)⟩
theorem alJ {a:ak} (h:ak.Q a):inR a:=by
 obtain ⟨k0,k1,k2,k3,k4,⟨r0,r1,r2,r3,r4,r5,r6,r7,_,_⟩,⟨n0,n1,n2,n3,_⟩,⟨p0,p1,p2⟩,⟨v0,v1,_⟩,⟨h0,h1,h2,h3⟩,⟨o0,o1,o2,o3⟩,hu,_⟩:=h
 refine ⟨fun k=> ?_,?_⟩
 ·unfold GR
  split <;> first | exact z64 | assumption
 ·unfold maxLen at hu
  omega
theorem Xq {W:World} (a:ak) (w0:ak.Q a) (t:ByteArray) (hI:Inv W) {vals:Array Value} (hr:bT (G6 (Old W) W) [.agg (ak.av a),.d (.v (.string t))] vals.toList):
  Calls Tryz.prog 3 vals W fun e w'=> e= .returned (.bool true)∧Below W.heap.size W w':=by
 obtain ⟨vl⟩:=vals
 have hr:bT (G6 (Old W) W) _ vl:=hr
 obtain ⟨av,l1,rfl,h0,hr⟩:=hr.cons_inv
 obtain ⟨tv,l2,rfl,h1,hr⟩:=hr.cons_inv
 have e:=hr.bg
 subst e
 obtain ⟨fv,uv,rfl,hf,hu⟩:=alI h0
 have e2:tv= .string t:=by
  cases h1 with
  | d h=> exact fG h
 subst e2
 obtain ⟨⟨l⟩⟩:=t
 have hq:=w0.2.2.2.2.2.1.2.2.2.2.2.2.2.2.2
 exact aaE W hI a (alJ w0) (fun z hz=> hq.2 z hz) hq.1 w0.2.2.2.2.2.2.2.2.2.2.2.1 l fv uv hf hu
end Go.Proofs.YtnegekppaoedgaaGreatDoor
