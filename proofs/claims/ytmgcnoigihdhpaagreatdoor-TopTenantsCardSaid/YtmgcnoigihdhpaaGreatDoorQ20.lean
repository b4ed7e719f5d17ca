/-
What came in as an argument, as plain data. Over any program.
-/
import Derived.Test.YtmgcnoigihdhpaaGreatDoorQ16
import Derived.WalkKit
import Derived.ProofKit
import Derived.ChangeSlices
import Derived.OpenShut
import Derived.Deep.Slices
import Derived.Deep.Fields
import Derived.Test.YtmgcnoigihdhpaaGreatDoorSU
namespace Go.Proofs.YtmgcnoigihdhpaaGreatDoor
open Go.ChangeShapes Go.WideShapes Go.ChangeAt Go.RowKit Go.Deep
section
variable {H : Type} {enc : TypeId × Value → H} {P : Program} {W : World}
def Old (W:World) (b:Nat):Prop:=b < W.heap.size
def CellsD (W:World) (ds:List D) (cs:List Value):Prop:=cs.length=ds.length∧∀(j:Nat) (d:D) (u:Value),ds[j]? =some d→cs[j]? =some u→RelD (Old W) W d u
def ReadsD (enc:TypeId×Value→H) (P:Program) (W:World) {α:Type} (e:TypeId) (f:α→List D) (Q:α→Prop):Prop:=
 ∀(fuel:Nat) (cs:List Value) (x:DataW H×List MemPlace),DataW.trod enc P W 0 (fun _=> true) true fuel e cs=some x→∃y,CellsD W (f y) cs∧Q y
theorem cellsD_one {d:D} {u:Value} (h:RelD (Old W) W d u):CellsD W [d] [u]:=⟨rfl,fun j x y hx hy=> by
 cases j with
 | zero=> simp at hx hy;subst hx hy;exact h
 | succ j=> simp at hx⟩
theorem cellsD_append {ds es:List D} {cs us:List Value} (h:CellsD W ds cs) (k:CellsD W es us):CellsD W (ds ++ es) (cs ++ us):=⟨by simp [h.1,k.1],fun j x y hx hy=> by
 rw [List.getElem?_append] at hx hy
 rw [h.1] at hy
 split at hx
 ·rename_i hlt
  rw [if_pos hlt] at hy
  exact h.2 j x y hx hy
 ·rename_i hlt
  rw [if_neg hlt] at hy
  exact k.2 _ x y hx hy⟩
theorem readsD_int {t:TypeId} {k:IntKind} (ht:P.underlying t=some (.int k)):ReadsD enc P W t (encI k) (fun n=> k.min≤n∧n≤k.max):=fun _ _ _ h=> by
 obtain ⟨n,rfl,_,hw⟩:=DataW.trod_int ht h
 refine ⟨n,cellsD_one (.v _ rfl),?_⟩
 simpa [Lit.wf] using hw
theorem readsD_bool {t:TypeId} (ht:P.underlying t=some .bool):ReadsD enc P W t encB (fun _=> True):=fun _ _ _ h=> by
 obtain ⟨n,rfl,_⟩:=DataW.trod_bool ht h
 exact ⟨n,cellsD_one (.v _ rfl),trivial⟩
theorem readsD_string {t:TypeId} (ht:P.underlying t=some .string):ReadsD enc P W t encS (fun s=> s.size≤maxLen):=fun _ _ _ h=> by
 obtain ⟨s,rfl,_,hl⟩:=DataW.trod_string ht h
 refine ⟨s,cellsD_one (.v _ rfl),?_⟩
 obtain ⟨⟨l⟩⟩:=s
 simpa [ByteArray.size] using hl
theorem listD_of {α:Type} (R:Nat→α→Prop):∀n,(∀i,i < n→∃y,R i y)→∃l:List α,l.length=n∧∀i (hi:i < l.length),R i l[i]
 | 0,_=> ⟨[],rfl,fun i hi=> absurd hi (by simp)⟩
 | n + 1,h=> by
  obtain ⟨l,h1,h2⟩:=listD_of R n (fun i hi=> h i (by omega))
  obtain ⟨y,hy⟩:=h n (by omega)
  refine ⟨l ++ [y],by simp [h1],fun i hi=> ?_⟩
  by_cases hin:i < l.length
  ·rw [List.getElem_append_left hin];exact h2 i hin
  ·have:i=n:=by simp at hi;omega
   subst this
   rw [List.getElem_append_right (by omega)]
   simpa [h1] using hy
theorem readsD_slice {t e:TypeId} (ht:P.underlying t=some (.slice e)) {sz:Nat} (hsz:P.cellsOf e=sz) (hpos:0 < sz) {α:Type} {f:α→List D} (hf:∀x,(f x).length=sz) {Q:α→Prop} (hel:ReadsD enc P W e f Q):
  ReadsD enc P W t (encL f) (fun l=> l.length≤maxLen∧∀x∈l,Q x):=by
 intro fuel cs x h
 rcases open_slice ht h with ⟨rfl,_⟩ | ⟨a,len,cap,m,n,Dt,Pl,rfl,_,hl,hm,hmm,_,hi⟩
 ·exact ⟨[],cellsD_one (.fz0 _ _ fun _=> rfl),by simp,by simp⟩
 ·simp only [if_true] at hmm
  rw [hsz,hmm] at hi
  obtain ⟨l,hll,hlr⟩:=listD_of (fun i y=> Q y∧∀j d,(f y)[j]? =some d→∃u,W.cell? (a.add (i * sz + j))=some u∧RelD (Old W) W d u) len (fun i hil=> by
   obtain ⟨cs',hc,ht'⟩:=hi i (by omega)
   obtain ⟨y,hy,hq⟩:=hel _ _ _ ht'
   obtain ⟨_,hcl,hat⟩:=World.cells?_some hc
   refine ⟨y,hq,fun j d hd=> ?_⟩
   have hj:j < sz:=by have:=(List.getElem?_eq_some_iff.1 hd).1;rw [hf] at this;exact this
   have h1:=hat j hj
   rw [Go.Deep.add_add] at h1
   have hjl:j < cs'.length:=by rw [hy.1,hf];exact hj
   exact ⟨cs'[j],by rw [h1];exact List.getElem?_eq_getElem hjl,hy.2 j d _ hd (List.getElem?_eq_getElem hjl)⟩)
  refine ⟨l,cellsD_one ?_,by rw [hll];exact Nat.le_trans hl hm,fun x hx=> ?_⟩
  ·by_cases h0:len=0
   ·have:l= []:=List.eq_nil_of_length_eq_zero (by omega)
    subst this h0
    exact .fz0 _ _ fun h=> by cases h
   ·obtain ⟨u0,hu0,_⟩:=(hlr 0 (by omega)).2 0 _ (List.getElem?_eq_getElem (show 0 < (f (l[0]'(by omega))).length by rw [hf];exact hpos))
    rw [Nat.zero_mul] at hu0
    have ha0:a.add (0 + 0)=a:=rfl
    rw [ha0] at hu0
    obtain ⟨hae,hab⟩:=addr_of_cell hu0
    have all:∀q,q < len * sz→∃u,W.cell? ⟨a.block,a.off + q,none⟩=some u:=by
     intro q hq
     have hmod:=Nat.mod_lt q hpos
     have hdiv:q / sz < len:=(Nat.div_lt_iff_lt_mul hpos).2 hq
     obtain ⟨u,hu,_⟩:=(hlr (q / sz) (by omega)).2 (q % sz) _ (List.getElem?_eq_getElem (show q % sz < (f (l[q / sz]'(by omega))).length by rw [hf];exact hmod))
     have hqe:q / sz * sz + q % sz=q:=by rw [Nat.mul_comm];exact Nat.div_add_mod q sz
     rw [hqe,hae,add_eq] at hu
     exact ⟨u,hu⟩
    have hlen:(l.map f).length=len:=by simp [hll]
    have hrel:=RelD.fz (S:=Old W) (w:=W) (l.map f) a.block a.off sz cap (fun q=> (W.cell? ⟨a.block,a.off + q,none⟩).getD undef) (fun e he=> by
     obtain ⟨y,_,rfl⟩:=List.mem_map.1 he
     exact hf y) hab (by rw [hlen];exact hl) (fun j hj=> by
     rw [hlen] at hj
     obtain ⟨u,hu⟩:=all j hj
     rw [hu]
     rfl) (fun i j e d he hd=> by
     rw [List.getElem?_map] at he
     have hil:i < l.length:=by
      cases hq:l[i]? with
      | none=> rw [hq] at he;cases he
      | some q=> exact (List.getElem?_eq_some_iff.1 hq).1
     rw [List.getElem?_eq_getElem hil] at he
     simp at he
     subst he
     obtain ⟨u,hu,hr⟩:=(hlr i hil).2 j d hd
     rw [hae,add_eq] at hu
     show RelD _ _ d ((W.cell? ⟨a.block,a.off + (i * sz + j),none⟩).getD undef)
     rw [hu]
     exact hr)
    rw [hlen,←hae] at hrel
    exact hrel
  ·obtain ⟨i,hi,rfl⟩:=List.getElem_of_mem hx
   exact (hlr i hi).1
def FieldsD (enc:TypeId×Value→H) (P:Program) (W:World) (n:Nat) (cs:List Value):List (Nat×TypeId)→Prop
 | []=> True
 | (o,t)::r=> (∃x,DataW.trod enc P W 0 (fun _=> true) true n t ((cs.drop o).take (P.cellsOf t))=some x)∧FieldsD enc P W n cs r
theorem fieldsD_of {t:TypeId} {fs:Array Field} {fuel:Nat} {cs:List Value} {x:DataW H×List MemPlace} (ht:P.underlying t=some (.struct fs)) (h:DataW.trod enc P W 0 (fun _=> true) true fuel t cs=some x):
  ∃n,FieldsD enc P W n cs (fs.toList.map fun f=> (f.offset,f.type))∧cs.length=P.cellsOf t:=by
 obtain ⟨xs,n,_,_,hl,hlen,hf⟩:=DataW.trod_struct ht h
 refine ⟨n,?_,hl⟩
 have:∀(l:List Field),(∀f∈l,∃i:Nat,fs[i]? =some f)→FieldsD enc P W n cs (l.map fun f=> (f.offset,f.type)):=by
  intro l
  induction l with
  | nil=> exact fun _=> trivial
  | cons f l ih=>
   intro hm
   obtain ⟨i,hi⟩:=hm f (by simp)
   have hil:i < xs.length:=by rw [hlen];exact (Array.getElem?_eq_some_iff.1 hi).1
   exact ⟨⟨xs[i],by rw [hf i f hi];exact List.getElem?_eq_getElem hil⟩,ih fun f' hf'=> hm f' (by simp [hf'])⟩
 exact this _ fun f hf'=> by
  obtain ⟨i,hi,rfl⟩:=List.getElem_of_mem hf'
  exact ⟨i,by simp at hi ⊢⟩
theorem fieldsD_cons {n o z:Nat} {t:TypeId} {r:List (Nat×TypeId)} {cs:List Value} {α:Type} {f:α→List D} {Q:α→Prop} (hel:ReadsD enc P W t f Q) (h:FieldsD enc P W n cs ((o,t)::r)) (hz:P.cellsOf t=z):
  ∃y,CellsD W (f y) ((cs.drop o).take z)∧Q y∧FieldsD enc P W n cs r:=by
 obtain ⟨⟨x,hx⟩,hr⟩:=h
 rw [hz] at hx
 obtain ⟨y,h1,h2⟩:=hel _ _ _ hx
 exact ⟨y,h1,h2,hr⟩
theorem cellsD_step {ds es:List D} {cs:List Value} {o z:Nat} (h:CellsD W ds ((cs.drop o).take z)) (_hz:ds.length=z) (k:CellsD W es (cs.drop (o + z))):CellsD W (ds ++ es) (cs.drop o):=by
 have e:cs.drop o=(cs.drop o).take z ++ cs.drop (o + z):=by rw [←List.drop_drop,List.take_append_drop]
 rw [e]
 exact cellsD_append h k
theorem cellsD_end {cs:List Value} {o:Nat} (h:cs.length=o):CellsD W [] (cs.drop o):=by
 rw [List.drop_of_length_le (by omega)]
 exact ⟨rfl,fun j d u hd=> by simp at hd⟩
theorem argD_one {t:TypeId} {v:Value} {d:DataW H} {p:List MemPlace} {α:Type} {f:α→D} {Q:α→Prop} (hel:ReadsD enc P W t (fun y=> [f y]) Q) (hv:v.cells= #[v]) (h:DataW.Trod enc P W 0 (fun _=> true) true t v d p):∃y,RelD (Old W) W (f y) v∧Q y:=by
 obtain ⟨fuel,hf⟩:=h
 obtain ⟨y,h1,h2⟩:=hel _ _ _ hf
 rw [hv] at h1
 exact ⟨y,h1.2 0 _ _ rfl rfl,h2⟩
theorem argD_agg {t:TypeId} {xs:Array Value} {d:DataW H} {p:List MemPlace} {α:Type} {f:α→List D} {Q:α→Prop} (hel:ReadsD enc P W t f Q) (h:DataW.Trod enc P W 0 (fun _=> true) true t (.agg xs) d p):∃y,Rel (cx0 (Old W) W) (.agg ((f y).map .d)) (.agg xs)∧Q y:=by
 obtain ⟨fuel,hf⟩:=h
 obtain ⟨y,h1,h2⟩:=hel _ _ _ hf
 have h1:CellsD W (f y) xs.toList:=h1
 refine ⟨y,.agg (by have:=h1.1;simpa using this) fun j c u hc hu=> ?_,h2⟩
 rw [List.getElem?_map] at hc
 cases hq:(f y)[j]? with
 | none=> rw [hq] at hc;cases hc
 | some q=>
  rw [hq] at hc
  injection hc with hc
  subst hc
  exact .d (h1.2 j q u hq (by simpa using hu))
end
end Go.Proofs.YtmgcnoigihdhpaaGreatDoor
namespace Go.Proofs.YtmgcnoigihdhpaaGreatDoor
open Go.RowKit
def linguaref38_Op.Q (x:linguaref38_Op):Prop:=(IntKind.i64.min≤x.Do∧x.Do≤IntKind.i64.max)∧(IntKind.i64.min≤x.Tenant∧x.Tenant≤IntKind.i64.max)∧(IntKind.i64.min≤x.Name∧x.Name≤IntKind.i64.max)∧(x.Text.size≤maxLen)
def api_Change.Q (x:api_Change):Prop:=(x.From.size≤maxLen)∧(x.To.size≤maxLen)∧(IntKind.i64.min≤x.Most∧x.Most≤IntKind.i64.max)
def api_Profile.Q (x:api_Profile):Prop:=(x.Name.size≤maxLen)∧(IntKind.i64.min≤x.Edit∧x.Edit≤IntKind.i64.max)∧(IntKind.i64.min≤x.Within∧x.Within≤IntKind.i64.max)∧(IntKind.i64.min≤x.Delete∧x.Delete≤IntKind.i64.max)∧True∧(IntKind.i64.min≤x.Thread∧x.Thread≤IntKind.i64.max)∧True∧True∧(IntKind.i64.min≤x.Size∧x.Size≤IntKind.i64.max)∧(IntKind.i64.min≤x.Parts∧x.Parts≤IntKind.i64.max)∧(IntKind.i64.min≤x.Files∧x.Files≤IntKind.i64.max)∧(IntKind.i64.min≤x.Bytes∧x.Bytes≤IntKind.i64.max)∧(x.Types.length≤maxLen∧∀u1∈x.Types,(u1.size≤maxLen))∧(IntKind.i64.min≤x.Join∧x.Join≤IntKind.i64.max)∧(IntKind.i64.min≤x.History∧x.History≤IntKind.i64.max)∧(IntKind.i64.min≤x.Remove∧x.Remove≤IntKind.i64.max)∧(IntKind.i64.min≤x.Level∧x.Level≤IntKind.i64.max)∧True∧(IntKind.i64.min≤x.Rate∧x.Rate≤IntKind.i64.max)∧(IntKind.i64.min≤x.Down∧x.Down≤IntKind.i64.max)∧(IntKind.i64.min≤x.Window∧x.Window≤IntKind.i64.max)∧(IntKind.i64.min≤x.Keep∧x.Keep≤IntKind.i64.max)
theorem inI_of {a:Int} (h1:IntKind.i64.min≤a) (h2:a≤IntKind.i64.max):inI a:=by
 unfold inI Lit.wf
 simp [h1]
 exact h2
theorem law_calls {W:World} (l:List linguaref38_Op) (w0:l.length≤maxLen∧∀u∈l,linguaref38_Op.Q u) (cs:List api_Change) (kind:ByteArray) (p:api_Profile) (x:Int) (hI:Inv W) {vals:Array Value}
  (hr:RelL (cx0 (Old W) W) [.d (.fz (l.map linguaref38_Op.enc)),.d (.fz (cs.map api_Change.enc)),.d (.v (.string kind)),.agg (api_Profile.av p),.d (.v (.int .i64 x))] vals.toList):
  Calls Tryz.prog 3 vals W fun e w'=> e= .returned (.bool true)∧Below W.heap.size W w':=by
 obtain ⟨vl⟩:=vals
 have hr:RelL (cx0 (Old W) W) _ vl:=hr
 obtain ⟨lv,l1,rfl,h0,hr⟩:=hr.cons_inv
 obtain ⟨cv,l2,rfl,h1,hr⟩:=hr.cons_inv
 obtain ⟨kv,l3,rfl,h2,hr⟩:=hr.cons_inv
 obtain ⟨pv,l4,rfl,h3,hr⟩:=hr.cons_inv
 obtain ⟨xv,l5,rfl,h4,hr⟩:=hr.cons_inv
 have e:=hr.nil_inv
 subst e
 have e2:=rel_dv h2
 have e4:=rel_dv h4
 subst e2 e4
 obtain ⟨tv,rfl,ht⟩:=prof_val h3
 cases h0 with
 | d h0=>
  cases h1 with
  | d h1=> exact law_walk W hI l cs kind p x (fun o ho=> inI_of (w0.2 o ho).2.2.1.1 (w0.2 o ho).2.2.1.2) lv cv tv h0 h1 ht
end Go.Proofs.YtmgcnoigihdhpaaGreatDoor
