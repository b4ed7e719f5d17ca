/-
Running code on constants: the head of the law, run by the kernel.
-/
import Derived.Test.YtmgcnoigihdhpaaGreatDoorCY1
import Derived.Test.YtmgcnoigihdhpaaGreatDoorCY2
import Derived.Test.YtmgcnoigihdhpaaGreatDoorSS
namespace Go.Proofs.YtmgcnoigihdhpaaGreatDoor.Ci
open Go.RowKit Go.Shelf
noncomputable def cuts2:List MemoB:= [cut11,cut12]
theorem cuts2_ok:∀m∈cuts2,m.Ok Tryz.prog GB:=by
 intro m hm
 simp only [cuts2,List.mem_cons,List.not_mem_nil,or_false] at hm
 rcases hm with rfl | rfl
 ·exact cut11_ok
 ·exact cut12_ok
noncomputable def ext3:Ext:=orX (onlyX (fun f=> (Nat.beq f 21)) (xB cuts2)) ext2
theorem ext3_ok:ExtOk Tryz.prog GB ext3:=orX_ok (onlyX_ok (xB_ok hasGB cuts2_ok)) ext2_ok
theorem alive_run:saysTrue (rc Tryz.prog ext3 100000 60 4 [] .e 0)=true:=by kernel_rfl
theorem alive_says:Says 4:=says_of ext3_ok alive_run
end Go.Proofs.YtmgcnoigihdhpaaGreatDoor.Ci
namespace Go.Proofs.YtmgcnoigihdhpaaGreatDoor
open Go.RowKit Go.Maps Go.Shelf
theorem gw_of {W:World} (h:Inv W):Ci.GW W:=by
 obtain ⟨o,h1,T,s,rfl⟩:=h _ (List.mem_cons_self ..)
 obtain ⟨o,h2,cs,T2,s2,m,rfl,h3⟩:=h _ (List.mem_cons_of_mem _ (List.mem_cons_self ..))
 refine ⟨?_,m,?_⟩
 ·unfold Lib.TabIs World.var?
  rw [Ci.powG,Option.bind_some,h1]
 ·rw [cell_of_row _ _ _ cs T2 s2 h2]
  exact h3
theorem head_says {W:World} (h:Inv W):Calls Tryz.prog 4 #[] W fun e W'=> e= .returned (.bool true)∧Below W.heap.size W W':=Ci.alive_says W (gw_of h)
theorem fn_bool {f:FuncId} {args:List AV} {r:Bool} (h:Fn False Tryz.prog f args (VB r)) {A:Nat→Prop} {W:World} {vals:Array Value} (hI:Inv W) (hA:∀b,A b→b < W.heap.size) (hr:RelL (cx0 A W) args vals.toList):
  Calls Tryz.prog f vals W fun e W'=> e= .returned (.bool r)∧Below W.heap.size W W':=by
 refine (h.2 W A vals hI hA hr).mono ?_
 rintro e W' ⟨v,S',bs,rfl,hb,_,hres,_,_⟩
 obtain ⟨b,_,h1⟩:=hres
 have hrel:RelD S' W' (.v (.bool r)) v:=h1.1
 rw [relD_v hrel]
 exact ⟨rfl,hb.toBelow⟩
theorem fn_pair {f:FuncId} {args:List AV} {s:ByteArray} {r:Bool} (h:Fn False Tryz.prog f args (.tup [VS s,VB r])) {A:Nat→Prop} {W:World} {vals:Array Value} (hI:Inv W) (hA:∀b,A b→b < W.heap.size) (hr:RelL (cx0 A W) args vals.toList):
  Calls Tryz.prog f vals W fun e W'=> e= .returned (.tuple #[.string s,.bool r])∧Below W.heap.size W W':=by
 refine (h.2 W A vals hI hA hr).mono ?_
 rintro e W' ⟨v,S',bs,rfl,hb,_,⟨xs,rfl,hres⟩,_,_⟩
 obtain ⟨x,r1,b1,b2,e1,_,⟨_,_,hx,_⟩,y,r2,b3,b4,e2,_,⟨_,_,hy,_⟩,e3,_⟩:=hres
 subst e2 e3
 have hx:RelD S' W' (.v (.string s)) x:=hx
 have hy:RelD S' W' (.v (.bool r)) y:=hy
 have e:=relD_v hx
 subst e
 have e:=relD_v hy
 subst e
 refine ⟨?_,hb.toBelow⟩
 obtain ⟨l⟩:=xs
 have e1:l= [_,_]:=e1
 rw [e1]
theorem op_slice {A:Nat→Prop} {w:World} (hA:∀b,A b→b < w.heap.size) {l:List linguaref38_Op} {v:Value} (h:RelD A w (.fz (l.map linguaref38_Op.enc)) v):∃a c,v= .slice a l.length c∧∀i x,l[i]? =some x→∃b o,a=some ⟨b,o,none⟩∧b < w.heap.size∧w.cell? ⟨b,o + i * 4,none⟩=some (.int .i64 x.Do)∧w.cell? ⟨b,o + i * 4 + 1,none⟩=some (.int .i64 x.Tenant)∧w.cell? ⟨b,o + i * 4 + 2,none⟩=some (.int .i64 x.Name)∧w.cell? ⟨b,o + i * 4 + 3,none⟩=some (.string x.Text):=by
 generalize hes:l.map linguaref38_Op.enc=es at h
 cases h with
 | fz0 a c _=>
  have:l= []:=List.map_eq_nil_iff.1 hes
  subst this
  exact ⟨_,_,rfl,fun i x hi=> by simp at hi⟩
 | fz _ b o sz c vs hs hb hcap hc hr=>
  have hlen:es.length=l.length:=by rw [←hes,List.length_map]
  rw [hlen]
  refine ⟨_,_,rfl,fun i x hx=> ⟨b,o,rfl,hA b hb,?_⟩⟩
  have hei:es[i]? =some (linguaref38_Op.enc x):=by rw [←hes,List.getElem?_map,hx];rfl
  have hil:i < es.length:=(List.getElem?_eq_some_iff.1 hei).1
  have hsz:sz=4:=by rw [←hs _ (List.mem_of_getElem? hei)];rfl
  subst hsz
  have v:∀j y,(linguaref38_Op.enc x)[j]? =some (.v y)→j < 4→w.cell? ⟨b,o + (i * 4 + j),none⟩=some y:=fun j y hy hj=> by
   rw [hc _ (by omega),relD_v (hr i j _ _ hei hy)]
  refine ⟨v 0 _ rfl (by omega),?_,?_,?_⟩
  ·rw [Nat.add_assoc]
   exact v 1 _ rfl (by omega)
  ·rw [Nat.add_assoc]
   exact v 2 _ rfl (by omega)
  ·rw [Nat.add_assoc]
   exact v 3 _ rfl (by omega)
def pcells (p:api_Profile) (tv:Value):Array Value:= #[.string p.Name,.int .i64 p.Edit,.int .i64 p.Within,.int .i64 p.Delete,.bool p.React,.int .i64 p.Thread,.bool p.Quote,.bool p.Mention,.int .i64 p.Size,.int .i64 p.Parts,.int .i64 p.Files,.int .i64 p.Bytes,tv,.int .i64 p.Join,.int .i64 p.History,.int .i64 p.Remove,.int .i64 p.Level,.bool p.Batch,.int .i64 p.Rate,.int .i64 p.Down,.int .i64 p.Window,.int .i64 p.Keep]
theorem rel_dv {κ:Cx} {x y:Value} (h:Rel κ (.d (.v x)) y):y=x:=by
 cases h with
 | d h=> exact relD_v h
theorem prof_val {A:Nat→Prop} {w:World} {p:api_Profile} {v:Value} (h:Rel (cx0 A w) (.agg (api_Profile.av p)) v):∃tv,v= .agg (pcells p tv)∧RelD A w (.fz (p.Types.map encS)) tv:=by
 cases h with
 | @agg _ vs hl h=>
  have hr:RelL (cx0 A w) (api_Profile.av p) vs.toList:=⟨by simpa using hl,fun j c v hc hv=> h j c v hc (by simpa using hv)⟩
  obtain ⟨l⟩:=vs
  have hr:RelL (cx0 A w) (api_Profile.av p) l:=hr
  clear h hl
  unfold api_Profile.av at hr
  obtain ⟨v0,l0,rfl,h0,hr⟩:=hr.cons_inv
  obtain ⟨v1,l1,rfl,h1,hr⟩:=hr.cons_inv
  obtain ⟨v2,l2,rfl,h2,hr⟩:=hr.cons_inv
  obtain ⟨v3,l3,rfl,h3,hr⟩:=hr.cons_inv
  obtain ⟨v4,l4,rfl,h4,hr⟩:=hr.cons_inv
  obtain ⟨v5,l5,rfl,h5,hr⟩:=hr.cons_inv
  obtain ⟨v6,l6,rfl,h6,hr⟩:=hr.cons_inv
  obtain ⟨v7,l7,rfl,h7,hr⟩:=hr.cons_inv
  obtain ⟨v8,l8,rfl,h8,hr⟩:=hr.cons_inv
  obtain ⟨v9,l9,rfl,h9,hr⟩:=hr.cons_inv
  obtain ⟨v10,l10,rfl,h10,hr⟩:=hr.cons_inv
  obtain ⟨v11,l11,rfl,h11,hr⟩:=hr.cons_inv
  obtain ⟨v12,l12,rfl,h12,hr⟩:=hr.cons_inv
  obtain ⟨v13,l13,rfl,h13,hr⟩:=hr.cons_inv
  obtain ⟨v14,l14,rfl,h14,hr⟩:=hr.cons_inv
  obtain ⟨v15,l15,rfl,h15,hr⟩:=hr.cons_inv
  obtain ⟨v16,l16,rfl,h16,hr⟩:=hr.cons_inv
  obtain ⟨v17,l17,rfl,h17,hr⟩:=hr.cons_inv
  obtain ⟨v18,l18,rfl,h18,hr⟩:=hr.cons_inv
  obtain ⟨v19,l19,rfl,h19,hr⟩:=hr.cons_inv
  obtain ⟨v20,l20,rfl,h20,hr⟩:=hr.cons_inv
  obtain ⟨v21,l21,rfl,h21,hr⟩:=hr.cons_inv
  have e:=hr.nil_inv
  subst e
  have e12:RelD A w (.fz (p.Types.map encS)) v12:=by
   cases h12 with
   | d h=> exact h
  refine ⟨v12,?_,e12⟩
  rw [rel_dv h0,rel_dv h1,rel_dv h2,rel_dv h3,rel_dv h4,rel_dv h5,rel_dv h6,rel_dv h7,rel_dv h8,rel_dv h9,rel_dv h10,rel_dv h11,rel_dv h13,rel_dv h14,rel_dv h15,rel_dv h16,rel_dv h17,rel_dv h18,rel_dv h19,rel_dv h20,rel_dv h21]
  rfl
theorem prof_rel {A:Nat→Prop} {w:World} {p:api_Profile} {tv:Value} (h:RelD A w (.fz (p.Types.map encS)) tv):Rel (cx0 A w) (.agg (api_Profile.av p)) (.agg (pcells p tv)):=by
 have vd:∀x:Value,x.oneCell'=true→Rel (cx0 A w) (.d (.v x)) x:=fun x hx=> .d (.v x hx)
 have key:RelL (cx0 A w) (api_Profile.av p) (pcells p tv).toList:=by
  unfold api_Profile.av pcells
  exact .cons (vd _ rfl) (.cons (vd _ rfl) (.cons (vd _ rfl) (.cons (vd _ rfl) (.cons (vd _ rfl) (.cons (vd _ rfl) (.cons (vd _ rfl) (.cons (vd _ rfl) (.cons (vd _ rfl) (.cons (vd _ rfl) (.cons (vd _ rfl) (.cons (vd _ rfl) (.cons (.d h) (.cons (vd _ rfl) (.cons (vd _ rfl) (.cons (vd _ rfl) (.cons (vd _ rfl) (.cons (vd _ rfl) (.cons (vd _ rfl) (.cons (vd _ rfl) (.cons (vd _ rfl) (.cons (vd _ rfl) (.nil _))))))))))))))))))))))
 exact .agg (by simpa using key.1) fun j c v hc hv=> key.2 j c v hc (by simpa using hv)
theorem row_relD {W:World} {base:Nat} {v:Value} {xs:List Int} (h:W.ownsRow base 3 1 v xs.length (xs.map (Value.int .i64))):RelD (fun b=> base≤b∧b < W.heap.size) W (.fz (xs.map (encI .i64))) v:=by
 obtain ⟨hlen,h⟩:=h
 rcases h with ⟨rfl,hn⟩ | ⟨g,cap,cur,rfl,h2,h3,h4,h5,h6,h7⟩
 ·have:xs= []:=List.length_eq_zero_iff.1 hn
  subst this
  exact .fz0 none 0 fun _=> rfl
 ·have hg:g < W.heap.size:=(Array.getElem?_eq_some_iff.1 h3).1
  have key:RelD (fun b=> base≤b∧b < W.heap.size) W (.fz (xs.map (encI .i64))) (.slice (some ⟨g,0,none⟩) (xs.map (encI .i64)).length cap):=by
   refine .fz _ g 0 1 cap (fun j=> cur.getD j undef) (fun e he=> by obtain ⟨x,_,rfl⟩:=List.mem_map.1 he;rfl) ⟨h2,hg⟩ (by rw [List.length_map];exact h4) (fun j hj=> ?_) (fun i j e x he hx=> ?_)
   ·rw [List.length_map] at hj
    rw [cell_of_row _ _ _ cur 3 (0,0) h3,Nat.zero_add]
    have hlt:j < cur.size:=by omega
    simp [hlt]
   ·rw [List.getElem?_map] at he
    cases hq:xs[i]? with
    | none=> rw [hq] at he;cases he
    | some z=>
     rw [hq] at he
     have he:=Option.some.inj he
     subst he
     have hil:=(List.getElem?_eq_some_iff.1 hq).1
     match j,hx with
     | 0,hx=>
      have hx:=Option.some.inj hx
      subst hx
      have e1:cur[i]? =some (.int .i64 z):=by
       have e2:(cur.toList.take (xs.length * 1))[i]? =(xs.map (Value.int .i64))[i]? :=by rw [h7]
       rw [List.getElem?_take_of_lt (by omega),List.getElem?_map,hq] at e2
       simpa using e2
      have e3:cur.getD (i * 1 + 0) undef= .int .i64 z:=by
       rw [Nat.mul_one,Nat.add_zero,Array.getD_eq_getD_getElem?,e1]
       rfl
      rw [e3]
      exact .v _ rfl
  rw [List.length_map] at key
  exact key
structure Two (B n m:Nat) (Ta To:Nat→Ten) (W:World):Prop where
 all:Sto (B + 1) B B (B + 14) (B + 28) (fun i=> B + 2 + i) Ta n W
 own:Sto (B + 14 + 1) (B + 14) (B + 14) (B + 14 + 14) (B + 28) (fun i=> B + 14 + 2 + i) To m W
 le:B + 28≤W.heap.size
def Ag (x:Int) (Ta To:Nat→Ten):Prop:=0≤x∧x < 12→Ta x.toNat=To x.toNat
def Fit (p:api_Profile) (T:Nat→Ten):Prop:=∀i,∀q∈(T i).files,((ftext q.2).length:Int)≤p.Bytes∧1≤p.Files
theorem upd_at (T:Nat→Ten) (i:Nat) (t:Ten):upd T i t i=t:=if_pos rfl
theorem upd_ne (T:Nat→Ten) {i j:Nat} (t:Ten) (h:j≠i):upd T i t j=T j:=if_neg h
section
variable {x : Int} {Ta To : Nat → Ten}
theorem Ag.put_same (h:Ag x Ta To) (t:List UInt8):Ag x (putT Ta x t).1 (putT To x t).1∧(putT Ta x t).2=(putT To x t).2:=by
 unfold putT
 by_cases hx:0≤x∧x < 12
 ·rw [if_pos hx,if_pos hx,h hx]
  exact ⟨fun _=> by dsimp only;rw [upd_at,upd_at],rfl⟩
 ·rw [if_neg hx,if_neg hx]
  exact ⟨h,rfl⟩
theorem Ag.put_other (h:Ag x Ta To) {y:Int} (hy:y≠x) (t:List UInt8):Ag x (putT Ta y t).1 To:=by
 unfold putT
 by_cases hx:0≤y∧y < 12
 ·rw [if_pos hx]
  intro hx2
  dsimp only
  rw [upd_ne _ _ (by omega)]
  exact h hx2
 ·rw [if_neg hx]
  exact h
theorem Ag.drop_same (h:Ag x Ta To) (k:Int):Ag x (dropT Ta x k).1 (dropT To x k).1∧(dropT Ta x k).2=(dropT To x k).2:=by
 unfold dropT
 by_cases hx:0≤x∧x < 12
 ·rw [if_pos hx,if_pos hx,h hx]
  cases getF (To x.toNat).files k with
  | none=> exact ⟨fun hx=> h hx,rfl⟩
  | some f=> exact ⟨fun _=> by dsimp only;rw [upd_at,upd_at],rfl⟩
 ·rw [if_neg hx,if_neg hx]
  exact ⟨h,rfl⟩
theorem Ag.drop_other (h:Ag x Ta To) {y:Int} (hy:y≠x) (k:Int):Ag x (dropT Ta y k).1 To:=by
 unfold dropT
 by_cases hx:0≤y∧y < 12
 ·rw [if_pos hx]
  cases getF (Ta y.toNat).files k with
  | none=> exact h
  | some f=>
   intro hx2
   dsimp only
   rw [upd_ne _ _ (by omega)]
   exact h hx2
 ·rw [if_neg hx]
  exact h
theorem Ag.get (h:Ag x Ta To) (k:Int):getOf Ta x k=getOf To x k:=by
 unfold getOf
 by_cases hx:0≤x∧x < 12
 ·rw [if_pos hx,if_pos hx,h hx]
 ·rw [if_neg hx,if_neg hx]
theorem Ag.used (h:Ag x Ta To):usedOf Ta x=usedOf To x:=by
 unfold usedOf
 by_cases hx:0≤x∧x < 12
 ·rw [if_pos hx,if_pos hx,h hx]
 ·rw [if_neg hx,if_neg hx]
theorem Ag.names (h:Ag x Ta To):namesOf Ta x=namesOf To x:=by
 unfold namesOf
 by_cases hx:0≤x∧x < 12
 ·rw [if_pos hx,if_pos hx,h hx]
 ·rw [if_neg hx,if_neg hx]
variable {p : api_Profile}
theorem Fit.upd (h:Fit p Ta) {i:Nat} {t:Ten} (ht:∀q∈t.files,((ftext q.2).length:Int)≤p.Bytes∧1≤p.Files):Fit p (upd Ta i t):=fun j q hq=> by
 by_cases e:j=i
 ·rw [e,upd_at] at hq
  exact ht q hq
 ·rw [upd_ne _ _ e] at hq
  exact h j q hq
theorem Fit.put (h:Fit p Ta) (y:Int) {t:List UInt8} (ht:(t.length:Int)≤p.Bytes∧1≤p.Files):Fit p (putT Ta y t).1:=by
 unfold putT
 by_cases hx:0≤y∧y < 12
 ·rw [if_pos hx]
  refine h.upd fun q hq=> ?_
  unfold putOf at hq
  split at hq
  ·exact h _ q hq
  ·split at hq
   ·exact h _ q hq
   ·rcases List.mem_append.1 hq with hq | hq
    ·exact h _ q hq
    ·rw [List.mem_singleton.1 hq,ftext_chunks]
     exact ht
 ·rw [if_neg hx]
  exact h
theorem Fit.drop (h:Fit p Ta) (y k:Int):Fit p (dropT Ta y k).1:=by
 unfold dropT
 by_cases hx:0≤y∧y < 12
 ·rw [if_pos hx]
  cases getF (Ta y.toNat).files k with
  | none=> exact h
  | some f=> exact h.upd fun q hq=> h _ q (List.mem_filter.1 hq).1
 ·rw [if_neg hx]
  exact h
theorem Fit.named (h:Fit p Ta) {k:Int} (hk:k∈namesOf Ta x):(getOf Ta x k).2=0∧((getOf Ta x k).1.length:Int)≤p.Bytes∧1≤p.Files:=by
 unfold namesOf at hk
 unfold getOf
 by_cases hx:0≤x∧x < 12
 ·rw [if_pos hx] at hk ⊢
  obtain ⟨q,hq,rfl⟩:=List.mem_map.1 hk
  cases hf:getF (Ta x.toNat).files q.1 with
  | none=>
   unfold getF at hf
   rw [Option.map_eq_none_iff,List.find?_eq_none] at hf
   exact absurd (by simp) (hf q hq)
  | some f=> exact ⟨rfl,h _ _ (getF_mem hf)⟩
 ·rw [if_neg hx] at hk
  cases hk
theorem fit0 (p:api_Profile):Fit p T0:=fun i q hq=> by cases hq
variable {B n m : Nat} {W : World}
theorem Two.below (h:Two B n m Ta To W) {W':World} (hb:Below W.heap.size W W'):Two B n m Ta To W':=⟨h.all.below hb,h.own.below hb,Nat.le_trans h.le hb.size⟩
theorem bytes_eta (s:ByteArray):s=⟨s.data.toList.toArray⟩:=by cases s;simp
theorem Two.put_all (h:Two B n m Ta To W) (hn:n≤400000) (y:Int) (s:ByteArray) (hs:s.size≤200):
  Calls Tryz.prog 12 #[.pointer (some ⟨B + 1,0,none⟩),.int .i64 y,.string s] W fun e W'=> e= .returned (.tuple #[.int .i64 (putT Ta y s.data.toList).2.1,.int .i64 (putT Ta y s.data.toList).2.2])∧Two B (n + 10000) m (putT Ta y s.data.toList).1 To W'∧Below B W W'∧∀k,B + 28≤k→k < W.heap.size→W'.heap[k]? =W.heap[k]? :=by
 have key:=put_any h.all h.le hn y s.data.toList (by rw [Array.length_toList];exact hs)
 rw [←bytes_eta s] at key
 refine key.mono ?_
 rintro e W' ⟨rfl,h1,h2⟩
 exact ⟨rfl,⟨h1,h.own.beside h2 (by omega) (by omega),Nat.le_trans h.le h2.size⟩,h2.below (by have:=h.le;omega),fun k hk hs=> h2.block k hs (by omega)⟩
theorem Two.put_mine {Ta':Nat→Ten} (h:Two B n m Ta' To W) (hn:m≤400000) (hag:Ag x Ta To) (y:Int) (hy:y=x) (s:ByteArray) (hs:s.size≤200):
  Calls Tryz.prog 12 #[.pointer (some ⟨B + 14 + 1,0,none⟩),.int .i64 y,.string s] W fun e W'=> e= .returned (.tuple #[.int .i64 (putT Ta y s.data.toList).2.1,.int .i64 (putT Ta y s.data.toList).2.2])∧Two B n (m + 10000) Ta' (putT To y s.data.toList).1 W'∧Below B W W'∧∀k,B + 28≤k→k < W.heap.size→W'.heap[k]? =W.heap[k]? :=by
 subst hy
 have key:=put_any h.own h.le hn y s.data.toList (by rw [Array.length_toList];exact hs)
 rw [←bytes_eta s,←(hag.put_same s.data.toList).2] at key
 refine key.mono ?_
 rintro e W' ⟨rfl,h1,h2⟩
 exact ⟨rfl,⟨h.all.beside h2 (by omega) (by omega),h1,Nat.le_trans h.le h2.size⟩,(h2.below (by have:=h.le;omega)).mono (by omega),fun k hk hs=> h2.block k hs (by omega)⟩
theorem Two.get_all (h:Two B n m Ta To W) (y k:Int) (hk:inI k):
  Calls Tryz.prog 13 #[.pointer (some ⟨B + 1,0,none⟩),.int .i64 y,.int .i64 k] W fun e W'=> e= .returned (.tuple #[.string ⟨(getOf Ta y k).1.toArray⟩,.int .i64 (getOf Ta y k).2])∧Below W.heap.size W W':=get_any h.all y k hk
theorem Two.get_own (h:Two B n m Ta To W) (y k:Int) (hk:inI k):
  Calls Tryz.prog 13 #[.pointer (some ⟨B + 14 + 1,0,none⟩),.int .i64 y,.int .i64 k] W fun e W'=> e= .returned (.tuple #[.string ⟨(getOf To y k).1.toArray⟩,.int .i64 (getOf To y k).2])∧Below W.heap.size W W':=get_any h.own y k hk
theorem Two.get_mine (h:Two B n m Ta To W) (hag:Ag x Ta To) (y:Int) (hy:y=x) (k:Int) (hk:inI k):
  Calls Tryz.prog 13 #[.pointer (some ⟨B + 14 + 1,0,none⟩),.int .i64 y,.int .i64 k] W fun e W'=> e= .returned (.tuple #[.string ⟨(getOf Ta y k).1.toArray⟩,.int .i64 (getOf Ta y k).2])∧Below W.heap.size W W':=by
 subst hy
 rw [hag.get]
 exact h.get_own y k hk
theorem Two.used_all (h:Two B n m Ta To W) (y:Int):Calls Tryz.prog 15 #[.pointer (some ⟨B + 1,0,none⟩),.int .i64 y] W fun e W'=> e= .returned (.int .i64 (usedOf Ta y:Int))∧Below W.heap.size W W':=used_any h.all y
theorem Two.used_mine (h:Two B n m Ta To W) (hag:Ag x Ta To):Calls Tryz.prog 15 #[.pointer (some ⟨B + 14 + 1,0,none⟩),.int .i64 x] W fun e W'=> e= .returned (.int .i64 (usedOf Ta x:Int))∧Below W.heap.size W W':=by
 rw [hag.used]
 exact used_any h.own x
theorem sto_names {b u lo hi rb n:Nat} {M:Nat→Nat} {T:Nat→Ten} {W:World} (h:Sto b u lo hi rb M T n W) (hn:n≤1000000) (y:Int):
  Calls Tryz.prog 17 #[.pointer (some ⟨b,0,none⟩),.int .i64 y] W fun e W'=> ∃v,e= .returned v∧RelD (fun b=> b < W'.heap.size) W' (.fz ((namesOf T y).map (encI .i64))) v∧Below W.heap.size W W':=by
 refine (names_any h hn y).mono ?_
 rintro e W' ⟨v,rfl,hr,hb⟩
 exact ⟨v,rfl,(row_relD hr).mono (fun _ h=> h.2) (fun _ _=> rfl),hb⟩
theorem Two.names_all (h:Two B n m Ta To W) (hn:n≤1000000) (y:Int):Calls Tryz.prog 17 #[.pointer (some ⟨B + 1,0,none⟩),.int .i64 y] W fun e W'=> ∃v,e= .returned v∧RelD (fun b=> b < W'.heap.size) W' (.fz ((namesOf Ta y).map (encI .i64))) v∧Below W.heap.size W W':=sto_names h.all hn y
theorem Two.names_mine (h:Two B n m Ta To W) (hn:m≤1000000) (hag:Ag x Ta To):Calls Tryz.prog 17 #[.pointer (some ⟨B + 14 + 1,0,none⟩),.int .i64 x] W fun e W'=> ∃v,e= .returned v∧RelD (fun b=> b < W'.heap.size) W' (.fz ((namesOf Ta x).map (encI .i64))) v∧Below W.heap.size W W':=by
 rw [hag.names]
 exact sto_names h.own hn x
theorem Two.names_len (h:Two B n m Ta To W) (y:Int):(namesOf Ta y).length≤n:=by
 unfold namesOf
 split
 ·rw [List.length_map]
  exact (h.all.ok _ (by omega)).many
 ·simp
theorem Two.names_in (h:Two B n m Ta To W) (y:Int):∀k∈namesOf Ta y,inI k:=by
 unfold namesOf
 split
 ·intro k hk
  obtain ⟨q,hq,rfl⟩:=List.mem_map.1 hk
  exact (h.all.files _ (by omega)).1.ok q hq
 ·intro k hk
  cases hk
theorem Two.get_named (h:Two B n m Ta To W) (hf:Fit p Ta) {k:Int} (hk:k∈namesOf Ta x):
  Calls Tryz.prog 13 #[.pointer (some ⟨B + 1,0,none⟩),.int .i64 x,.int .i64 k] W fun e W'=> ∃s:ByteArray,e= .returned (.tuple #[.string s,.int .i64 0])∧(s.size:Int)≤p.Bytes∧1≤p.Files∧Below W.heap.size W W':=by
 obtain ⟨h1,h2,h3⟩:=hf.named hk
 refine (h.get_all x k (h.names_in x k hk)).mono ?_
 rintro e W' ⟨rfl,hb⟩
 rw [h1]
 exact ⟨_,rfl,h2,h3,hb⟩
theorem ints_slice {A:Nat→Prop} {W:World} {xs:List Int} {v:Value} (h:RelD A W (.fz (xs.map (encI .i64))) v):∃a c,v= .slice a xs.length c∧∀i k,xs[i]? =some k→∃b o,a=some ⟨b,o,none⟩∧A b∧W.cell? ⟨b,o + i,none⟩=some (.int .i64 k):=by
 generalize hes:xs.map (encI .i64)=es at h
 cases h with
 | fz0 a c _=>
  have:xs= []:=List.map_eq_nil_iff.1 hes
  subst this
  exact ⟨_,_,rfl,fun i x hi=> by simp at hi⟩
 | fz _ b o sz c vs hs hb hcap hc hr=>
  have hlen:es.length=xs.length:=by rw [←hes,List.length_map]
  rw [hlen]
  refine ⟨_,_,rfl,fun i k hk=> ⟨b,o,rfl,hb,?_⟩⟩
  have hei:es[i]? =some (encI .i64 k):=by rw [←hes,List.getElem?_map,hk];rfl
  have hil:i < es.length:=(List.getElem?_eq_some_iff.1 hei).1
  have hsz:sz=1:=by rw [←hs _ (List.mem_of_getElem? hei)];rfl
  subst hsz
  have e:=relD_v (hr i 0 _ _ hei rfl)
  rw [Nat.mul_one,Nat.add_zero] at e
  rw [hc _ (by omega),e]
theorem Two.drop_all (h:Two B n m Ta To W) (hn:n≤400000) (y k:Int) (hk:inI k):
  Calls Tryz.prog 14 #[.pointer (some ⟨B + 1,0,none⟩),.int .i64 y,.int .i64 k] W fun e W'=> e= .returned (.int .i64 (dropT Ta y k).2)∧Two B (n + 10000) m (dropT Ta y k).1 To W'∧Below B W W'∧∀k,B + 28≤k→k < W.heap.size→W'.heap[k]? =W.heap[k]? :=by
 refine (drop_any h.all hn y k hk).mono ?_
 rintro e W' ⟨rfl,h1,h2⟩
 exact ⟨rfl,⟨h1,h.own.beside h2 (by omega) (by omega),Nat.le_trans h.le h2.size⟩,h2.below (by have:=h.le;omega),fun k hk hs=> h2.block k hs (by omega)⟩
theorem Two.drop_mine {Ta':Nat→Ten} (h:Two B n m Ta' To W) (hn:m≤400000) (hag:Ag x Ta To) (y:Int) (hy:y=x) (k:Int) (hk:inI k):
  Calls Tryz.prog 14 #[.pointer (some ⟨B + 14 + 1,0,none⟩),.int .i64 y,.int .i64 k] W fun e W'=> e= .returned (.int .i64 (dropT Ta y k).2)∧Two B n (m + 10000) Ta' (dropT To y k).1 W'∧Below B W W'∧∀k,B + 28≤k→k < W.heap.size→W'.heap[k]? =W.heap[k]? :=by
 subst hy
 rw [(hag.drop_same k).2]
 refine (drop_any h.own hn y k hk).mono ?_
 rintro e W' ⟨rfl,h1,h2⟩
 exact ⟨rfl,⟨h.all.beside h2 (by omega) (by omega),h1,Nat.le_trans h.le h2.size⟩,(h2.below (by have:=h.le;omega)).mono (by omega),fun k hk hs=> h2.block k hs (by omega)⟩
end
theorem two_new {W W1 W2:World} (h1:New0 W 12 W1) (h2:New0 W1 12 W2):Two W.heap.size 0 0 T0 T0 W2∧Below W.heap.size W W2:=by
 have hs:=h1.size
 have hs2:=h2.size
 have e1:W1.heap.size=W.heap.size + 14:=by omega
 refine ⟨⟨(new_sto h1 (by omega)).below h2.below,?_,by omega⟩,h1.below.trans (h2.below.mono (by omega))⟩
 have:=new_sto h2 (rb:=W.heap.size + 28) (by omega)
 rw [e1] at this
 exact this
end Go.Proofs.YtmgcnoigihdhpaaGreatDoor
