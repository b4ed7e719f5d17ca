/-
(*chunk.Store).Put.
-/
import Derived.Test.YtmgcnoigihdhpaaGreatDoorQ07
namespace Go.Proofs.YtmgcnoigihdhpaaGreatDoor
open Go.RowKit Go.Maps Go.Shelf
section
variable {o : Oper} {a : Act} {w w' : World} {K : Act → World → Prop} {Q : Exit → Act → World → Prop}
theorem wp_value {v:Value} (h:(execOp a.eval o).run Tryz.prog w= .ok (.value v) w') (hk:K (a.put o.dst v) w'):o.wp Tryz.prog a w K Q:=by
 unfold Oper.wp
 rw [h,Oper.upon_value]
 exact hk
theorem e_look {x:Value} (m k:Operand) (ho:o.op= .lookup 94 m k false) {mv kk:Value} (hm:a.eval m=mv) (hk:a.eval k=kk) (h:(Instr.lookup 94 mv kk false).run Tryz.prog w= .ok x w):(execOp a.eval o).run Tryz.prog w= .ok (.value x) w:=by
 unfold execOp
 simp only [ho,hm,hk,Sem.run_bind,h,Result.andThen_ok,Sem.run_pure]
theorem e_entry {x:Value} (m k:Operand) (ho:o.op= .mapEntry 94 m k) {mv kk:Value} (hm:a.eval m=mv) (hk:a.eval k=kk) (h:(Instr.mapEntry 94 mv kk).run Tryz.prog w= .ok x w'):(execOp a.eval o).run Tryz.prog w= .ok (.value x) w':=by
 unfold execOp
 simp only [ho,hm,hk,Sem.run_bind,h,Result.andThen_ok,Sem.run_pure]
theorem inI_wrap (n:Int):inI (IntKind.i64.wrap n):=by
 rw [IntWalk.i64_left]
 exact wrap64_wf n
theorem wp_mput (m s v:Operand) (ho:o.op= .mapUpdate 95 m s v) {mv sv vv:Value} (hm:a.eval m=mv) (hs:a.eval s=sv) (hv:a.eval v=vv) (h:(Instr.mapUpdate 95 mv sv vv).run Tryz.prog w= .ok () w') (hk:K (a.put o.dst undef) w'):o.wp Tryz.prog a w K Q:=by
 unfold Oper.wp execOp
 simp only [ho,hm,hs,hv,Sem.run_bind,h,Result.andThen_ok,Sem.run_pure]
 exact hk
theorem wp_estore (m s v:Operand) (ho:o.op= .entryStore 94 m s v) {mv sv vv:Value} (hm:a.eval m=mv) (hs:a.eval s=sv) (hv:a.eval v=vv) (h:(Instr.entryStore 94 mv sv vv).run Tryz.prog w= .ok () w') (hk:K (a.put o.dst undef) w'):o.wp Tryz.prog a w K Q:=by
 unfold Oper.wp execOp
 simp only [ho,hm,hs,hv,Sem.run_bind,h,Result.andThen_ok,Sem.run_pure]
 exact hk
end
def putOf (t:Ten) (f:List Ch) (len:Nat):Ten×Int×Int:=
 match t.files.find? fun p=> decide (p.2=f) with
 | some p=> (t,p.1,0)
 | none=> if 1048576 < tsize t.files + len then (t,0,6) else (⟨t.next + 1,t.files ++ [(t.next,f)]⟩,t.next,0)
structure PS (b u lo hi rb:Nat) (M:Nat→Nat) (T:Nat→Ten) (n:Nat) (W0:World) (fv:Value) (f:List Ch) (nv:Value) (ns:List Int) (W:World):Prop where
 sto:Sto b u lo hi rb M T n W
 file:FileAt rb W fv f
 row:W.ownsRow rb 3 1 nv ns.length (ns.map (Value.int .i64))
 out:Out lo hi W0 W
theorem own_keep {W W':World} {base:Nat} {e:TypeId} {size n:Nat} {v:Value} {xs:List Value} (h:W.ownsRow base e size v n xs) (hb:∀g,base≤g→g < W.heap.size→W'.heap[g]? =W.heap[g]?):W'.ownsRow base e size v n xs:=by
 refine ⟨h.1,?_⟩
 rcases h.2 with h1 | ⟨g,cap,cur,h1,h2,h3,h4⟩
 ·exact Or.inl h1
 ·exact Or.inr ⟨g,cap,cur,h1,h2,(hb g h2 (Array.getElem?_eq_some_iff.1 h3).1).trans h3,h4⟩
theorem file_mono {lo lo':Nat} {W:World} {v:Value} {f:List Ch} (h:FileAt lo' W v f) (hl:lo≤lo'):FileAt lo W v f:=⟨h.1,own_mono h.2 hl⟩
section
variable {b u lo hi rb n : Nat} {M : Nat → Nat} {T : Nat → Ten} {W0 W : World} {fv nv : Value} {f : List Ch} {ns : List Int}
theorem PS.below (h:PS b u lo hi rb M T n W0 fv f nv ns W) {W':World} (hb:Below W.heap.size W W'):PS b u lo hi rb M T n W0 fv f nv ns W':=
 ⟨h.sto.below hb,h.file.keep fun g hg=> hb.block g (hf_lt h.file g hg).2,own_keep h.row fun g _ hs=> hb.block g hs,h.out.trans (Out.of_below hb)⟩
theorem PS.turn (h:PS b u lo hi rb M T n W0 fv f nv ns W) {W':World} {T':Nat→Ten} {n':Nat} (hs:Sto b u lo hi rb M T' n' W') (ho:Out lo hi W W'):PS b u lo hi rb M T' n' W0 fv f nv ns W':=
 ⟨hs,h.file.keep fun g hg=> ho.block g (hf_lt h.file g hg).2 (Or.inr (Nat.le_trans h.sto.rb (hf_lt h.file g hg).1)),own_keep h.row fun g hr hs=> ho.block g hs (Or.inr (Nat.le_trans h.sto.rb hr)),h.out.trans ho⟩
theorem PS.names (h:PS b u lo hi rb M T n W0 fv f nv ns W):∃a c,nv= .slice a ns.length c∧∀k x,ns[k]? =some x→∃g,a=some ⟨g,0,none⟩∧W.cell? ⟨g,k,none⟩=some (.int .i64 x):=by
 rcases h.row.2 with ⟨h1,h2⟩ | ⟨g,cap,cur,h1,h2,h3,h4,h5,h6,h7⟩
 ·exact ⟨none,0,by rw [h1,h2],fun k x hx=> by
   rw [List.length_eq_zero_iff.1 h2] at hx
   simp at hx⟩
 ·refine ⟨_,_,h1,fun k x hx=> ⟨g,rfl,?_⟩⟩
  rw [cell_of_row _ _ _ cur 3 (0,0) h3]
  have h8:(ns.map (Value.int .i64))[k]? =some (.int .i64 x):=by rw [List.getElem?_map,hx];rfl
  rw [←h7,List.getElem?_take] at h8
  split at h8
  ·simpa using h8
  ·cases h8
end
theorem ftext_chunks:∀t:List UInt8,ftext (chunks t)=t:=by
 have key:∀n,∀t:List UInt8,t.length≤n→ftext (chunks t)=t:=by
  intro n
  induction n with
  | zero=>
   intro t h
   have:t= []:=List.length_eq_zero_iff.1 (by omega)
   subst this
   rw [chunks_nil]
   rfl
  | succ n ih=>
   intro t h
   by_cases he:t= []
   ·subst he
    rw [chunks_nil]
    rfl
   ·have hpos:0 < t.length:=List.length_pos_iff.2 he
    have:=ih (t.drop 32) (by simp;omega)
    rw [chunks_cons he]
    unfold ftext at this ⊢
    rw [List.flatten_cons,this,List.take_append_drop]
 intro t
 exact key t.length t (Nat.le_refl _)
theorem fsize_chunks (t:List UInt8):fsize (chunks t)=t.length:=by rw [←ftext_len,ftext_chunks]
theorem tsize_push (L:Fls) (k:Int) (f:List Ch):tsize (L ++ [(k,f)])=tsize L + fsize f:=by simp [tsize]
theorem find_at {f:List Ch} {p:Int×List Ch} (hf:p.2=f):∀{L:Fls} {k:Nat},L[k]? =some p→(∀j q,j < k→L[j]? =some q→q.2≠f)→(L.find? fun p=> decide (p.2=f))=some p
 | [],k,hp,_=> by simp at hp
 | q::L,0,hp,_=> by
  simp at hp
  subst hp
  simp [hf]
 | q::L,k + 1,hp,hno=> by
  have h0:=hno 0 q (by omega) rfl
  rw [List.find?_cons_of_neg (by simpa using h0)]
  exact find_at hf (by simpa using hp) fun j r hj hr=> hno (j + 1) r (by omega) (by simpa using hr)
theorem find_no {f:List Ch} {L:Fls} (hno:∀j q,j < L.length→L[j]? =some q→q.2≠f):(L.find? fun p=> decide (p.2=f))=none:=by
 rw [List.find?_eq_none]
 intro p hp
 obtain ⟨j,hj⟩:=List.getElem?_of_mem hp
 simpa using hno j p (List.getElem?_eq_some_iff.1 hj).1 hj
theorem put_found {t:Ten} {f:List Ch} {len:Nat} {p:Int×List Ch} (h:(t.files.find? fun p=> decide (p.2=f))=some p):putOf t f len=(t,p.1,0):=by unfold putOf;rw [h]
theorem put_full {t:Ten} {f:List Ch} {len:Nat} (h:(t.files.find? fun p=> decide (p.2=f))=none) (hl:1048576 < tsize t.files + len):putOf t f len=(t,0,6):=by unfold putOf;rw [h];simp [hl]
theorem put_new {t:Ten} {f:List Ch} {len:Nat} (h:(t.files.find? fun p=> decide (p.2=f))=none) (hl:¬1048576 < tsize t.files + len):putOf t f len=(⟨t.next + 1,t.files ++ [(t.next,f)]⟩,t.next,0):=by unfold putOf;rw [h];simp [hl]
theorem upd_self (T:Nat→Ten) (i:Nat):upd T i (T i)=T:=by
 funext j
 unfold upd
 by_cases h:j=i
 ·rw [if_pos h,h]
 ·rw [if_neg h]
theorem getF_at {L:Fls} (h:L.Pairwise fun p q=> p.1 < q.1) {k:Nat} {p:Int×List Ch} (hp:L[k]? =some p):getF L p.1=some p.2:=by
 obtain ⟨g,hg⟩:=Option.isSome_iff_exists.1 (getF_some (L:=L) (List.mem_map.2 ⟨p,List.mem_of_getElem? hp,rfl⟩))
 obtain ⟨j,hj⟩:=List.getElem?_of_mem (getF_mem hg)
 have:j=k:=by
  have hjl:=(List.getElem?_eq_some_iff.1 hj)
  have hkl:=(List.getElem?_eq_some_iff.1 hp)
  obtain ⟨h1,h2⟩:=hjl
  obtain ⟨h3,h4⟩:=hkl
  have h5:=List.pairwise_iff_getElem.1 h
  rcases Nat.lt_trichotomy j k with hlt | heq | hgt
  ·have:=h5 j k h1 h3 hlt
   rw [h2,h4] at this
   simp at this
  ·exact heq
  ·have:=h5 k j h3 h1 hgt
   rw [h2,h4] at this
   simp at this
 subst this
 rw [hp] at hj
 injection hj with hj
 rw [hj]
 rw [hj] at hg
 exact hg
theorem chunks_ok:∀{t:List UInt8},t.length≤10000→(chunks t).length≤10000∧∀c∈chunks t,c≠ []:=by
 have key:∀n,∀t:List UInt8,t.length≤n→(chunks t).length≤n∧∀c∈chunks t,c≠ []:=by
  intro n
  induction n with
  | zero=>
   intro t h
   have:t= []:=List.length_eq_zero_iff.1 (by omega)
   subst this
   rw [chunks_nil]
   simp
  | succ n ih=>
   intro t h
   by_cases he:t= []
   ·subst he
    rw [chunks_nil]
    simp
   ·rw [chunks_cons he]
    have hpos:0 < t.length:=List.length_pos_iff.2 he
    obtain ⟨h1,h2⟩:=ih (t.drop 32) (by simp;omega)
    refine ⟨by simp;omega,fun c hc=> ?_⟩
    rcases List.mem_cons.1 hc with rfl | hc
    ·intro e
     have:=congrArg List.length e
     simp at this
     exact he this
    ·exact h2 c hc
 intro t h
 obtain ⟨h1,h2⟩:=key t.length t (Nat.le_refl _)
 exact ⟨Nat.le_trans h1 h,h2⟩
set_option maxRecDepth 100000 in
set_option maxHeartbeats 8000000 in
theorem put_in {b u lo hi rb n:Nat} {M:Nat→Nat} {T:Nat→Ten} {W:World} (h:Sto b u lo hi rb M T n W) (hrb:rb≤W.heap.size) (hn:n≤500000) {i:Nat} (h12:i < 12) (t:List UInt8) (ht:t.length≤10000):
  Calls Tryz.prog 12 #[.pointer (some ⟨b,0,none⟩),.int .i64 (i:Int),.string ⟨t.toArray⟩] W fun e W'=> e= .returned (.tuple #[.int .i64 (putOf (T i) (chunks t) t.length).2.1,.int .i64 (putOf (T i) (chunks t) t.length).2.2])∧Sto b u lo hi rb M (upd T i (putOf (T i) (chunks t) t.length).1) (n + (chunks t).length + 1) W'∧Out lo hi W W':=by
 have HS:=Lib.hid h
 have HRB:=Lib.hid hrb
 clear h hrb
 have hgt:¬(65536 < (t.length:Int)):=by omega
 go_enter Tryz.func12,Tryz.ntmps12
 go_upto_region 6 with (go_at_call 26;refine (of_in b i _ h12).mono ?_;rintro r w1 ⟨rfl,rfl⟩)
 go_upto_region 7 with (go_at_call 27;refine (divided_walk t w1 (by omega)).mono ?_;rintro r w2 ⟨fv,rfl,hb2,hfv⟩;have HB2:=Lib.hid hb2;have HF2:=Lib.hid (file_mono hfv HRB.out);clear hb2 hfv)
 have HL:Hid ((chunks t).length≤10000∧(∀c∈chunks t,c≠ [])):=Lib.hid (chunks_ok ht)
 generalize hfq:chunks t=f at HF2 HL ⊢
 have HFQ:=Lib.hid hfq
 clear hfq
 obtain ⟨fa,fc,hfv,hfc⟩:=HF2.out.slice
 have HFC:=Lib.hid hfc
 subst hfv
 clear hfc
 have HP0:Hid (∀W' nv,Below w2.heap.size w2 W'→W'.ownsRow w2.heap.size 3 1 nv (T i).files.length (((T i).files.map (·.1)).map (Value.int .i64))→PS b u lo hi rb M T n w1 (.slice fa f.length fc) f nv ((T i).files.map (·.1)) W'):=Lib.hid fun W' nv hb hr=>
  ⟨(HS.out.below HB2.out).below hb,HF2.out.keep fun g hg=> hb.block g (hf_lt HF2.out g hg).2,own_mono (by rw [List.length_map];exact hr) (Nat.le_trans HRB.out HB2.out.size),(Out.of_below HB2.out).trans (Out.of_below hb)⟩
 have HS2:=Lib.hid (HS.out.below HB2.out)
 go_wp2_with (go_at_call 17;refine (names_in HS2.out (Nat.le_trans hn (by omega)) h12).mono ?_;rintro r w3 ⟨nv,rfl,hrow,hb3⟩;have HP:=Lib.hid (HP0.out w3 nv hb3 hrow);clear hrow hb3;obtain ⟨na,nc,hnv,hnat⟩:=HP.out.names;have HNAT:=Lib.hid hnat;clear hnat;subst hnv)
 clear HP0 HS2 HB2 HF2
 have HGET:Hid (∀k x,((T i).files.map (·.1))[k]? =some x→∃p:Int×List Ch,(T i).files[k]? =some p∧p.1=x∧inI x∧getF (T i).files x=some p.2):=Lib.hid fun k x hx=> by
  obtain ⟨p,hp,h1⟩:=Option.map_eq_some_iff.1 ((List.getElem?_map ..).symm.trans hx)
  have hok:=(HS.out.files i h12).1
  exact ⟨p,hp,h1,by rw [←h1];exact hok.ok p (List.mem_of_getElem? hp),by rw [←h1];exact getF_at hok.up hp⟩
 have HMANY:=Lib.hid (HP.out.sto.ok i h12).many
 generalize hN:(T i).files.length=N at *
 have HN:=Lib.hid hN
 clear hN
 go_loopg [34] N (fun q y W=> ∃k:Nat,k + q=N∧y= .int .i64 k∧Hid (PS b u lo hi rb M T n w1 (.slice fa f.length fc) f (.slice na ((T i).files.map (·.1)).length nc) ((T i).files.map (·.1)) W)∧Hid (∀j p,j < k→(T i).files[j]? =some p→p.2≠f))
 case atStart=> exact ⟨0,by omega,rfl,HP,Lib.hid fun j p h=> absurd h (by omega)⟩
 case round=>
  obtain ⟨k,hk,rfl,HP,HNO⟩:=hrel
  clear HNAT
  by_cases hlt:k < N
  ·have hkk:k < 1000000:=by have:=HMANY.out;omega
   obtain ⟨x,hx⟩:∃x,((T i).files.map (·.1))[k]? =some x:=⟨_,List.getElem?_eq_getElem (by rw [List.length_map,HN.out];exact hlt)⟩
   obtain ⟨na',nc',hnv,hnat⟩:=HP.out.names
   obtain ⟨g,hna,hcell⟩:=hnat k x hx
   injection hnv with hn1 hn2 hn3
   rw [hna] at hn1
   subst hn1
   obtain ⟨p,hp,hpx,hxi,hgf⟩:=HGET.out k x hx
   have c0:=(HP.out.sto.cells h12).1
   obtain ⟨v,hv,_,hlook⟩:=(HP.out.sto.files i h12).look_ok hxi hgf
   have HV:=Lib.hid hv
   have HPP:=Lib.hid hp
   have HPX:=Lib.hid hpx
   have HLN:=Lib.hid ((HP.out.sto.ok i h12).len p (List.mem_of_getElem? hp))
   clear hn2 hn3 hna hnat hv hp hpx hxi hgf hx
   go_wp2_with (go_at_call 28;refine (equal_walk rb rb v _ p.2 f wr HV.out HP.out.file (Nat.le_trans HLN.out (by omega)) (Nat.le_trans HL.out.1 (by omega))).mono ?_;rintro r w4 ⟨rfl,hb4⟩;have HB4:=Lib.hid hb4;clear hb4)
   ·have hpf:p.2=f:=by assumption
    go_ret2
    rw [HFQ.out,put_found (find_at hpf HPP.out HNO.out),upd_self]
    have HP4:=HP.out.below HB4.out
    exact ⟨by rw [HPX.out];rfl,HP4.sto.mono (by omega),HP4.out⟩
   ·have hpf:¬p.2=f:=by assumption
    go_roundg (gk - 1)
    case measure=> omega
    refine ⟨k + 1,by omega,by rw [Int.natCast_add];rfl,Lib.hid (HP.out.below HB4.out),Lib.hid fun j q hj hq=> ?_⟩
    by_cases hjk:j=k
    ·subst hjk
     rw [HPP.out] at hq
     injection hq with hq
     rw [←hq]
     exact hpf
    ·exact HNO.out j q (by omega) hq
  ·obtain rfl:k=N:=by omega
   have HFN:Hid (((T i).files.find? fun p=> decide (p.2=f))=none):=Lib.hid (find_no fun j q hj hq=> HNO.out j q (by rw [←HN.out];exact hj) hq)
   clear HNO HGET
   go_upto_region 13 with fail
   have HUS:Hid (Calls Tryz.prog 15 #[.pointer (some ⟨b,0,none⟩),.int .i64 (i:Int)] wr fun e W'=> e= .returned (.int .i64 (tsize (T i).files:Int))∧Below wr.heap.size wr W'):=Lib.hid (used_in HP.out.sto h12)
   have HSZ:=Lib.hid (HP.out.sto.ok i h12).size
   generalize hsz:tsize (T i).files=sz at HUS HSZ
   have HSZE:=Lib.hid hsz
   clear hsz
   have hsz2:sz≤1048576:=HSZ.out
   have hadd:wrap64 ((sz:Int) + (t.length:Int))=(sz:Int) + (t.length:Int):=IntWalk.wrap64_in _ (by omega)
   by_cases hq:1048576 < sz + t.length
   ·have hq2:(1048576:Int) < (sz:Int) + (t.length:Int):=by omega
    go_wp2_with (go_at_call 15;refine HUS.out.mono ?_;rintro r w4 ⟨rfl,hb4⟩;have HB4:=Lib.hid hb4;clear hb4)
    go_ret2
    rw [HFQ.out,put_full HFN.out (by rw [HSZE.out];exact hq),upd_self]
    have HP4:=HP.out.below HB4.out
    exact ⟨rfl,HP4.sto.mono (by omega),HP4.out⟩
   ·have hq2:¬(1048576:Int) < (sz:Int) + (t.length:Int):=by omega
    go_upto_region 15 with (go_at_call 15;refine HUS.out.mono ?_;rintro r w4 ⟨rfl,hb4⟩;have HB4:=Lib.hid hb4;clear hb4)
    have HP4:=Lib.hid (HP.out.below HB4.out)
    clear HP HUS HB4 hadd
    generalize hm:f.length=m at *
    have HM:=Lib.hid hm
    clear hm
    go_wp2_with fail
    go_loopg [57] m (fun q y W=> ∃k:Nat,k + q=m∧y= .int .i64 k∧Hid (PS b u lo hi rb M T (n + k) w1 (.slice fa m fc) f (.slice na ((T i).files.map (·.1)).length nc) ((T i).files.map (·.1)) W))
    case atStart=> exact ⟨0,by omega,rfl,HP4⟩
    case round=>
     obtain ⟨j,hj,rfl,HQ⟩:=hrel
     clear HP4
     have hj6:j < 1000000:=by have:=HL.out.1;omega
     by_cases hjm:j < m
     ·obtain ⟨c,hc⟩:∃c,f[j]? =some c:=⟨_,List.getElem?_eq_getElem (by rw [HM.out];exact hjm)⟩
      obtain ⟨fa',fc',hfe,hrg⟩:=HQ.out.file.slice
      rw [HM.out] at hfe
      injection hfe with hf1 hf2 hf3
      obtain ⟨g,rfl,_,hg,hat⟩:∃g,fa'=some ⟨g,0,none⟩∧rb≤g∧g < wr.heap.size∧∀i c,f[i]? =some c→wr.rangeAt g (i * 33) (kl c):=hrg.resolve_left fun e=> by rw [e] at hc;simp at hc
      have HAT:=Lib.hid (hat j c hc)
      have hok:=Lib.hid (HQ.out.file.1 c (List.mem_of_getElem? hc))
      subst hf1
      clear hf2 hf3 hrg hat hg hc
      go_upto_region 17 with fail
      refine wp_region_lit ?_
      (refine rdT ?_;simp only [Act.put,sA,sB,sC])
      refine l_load rfl _ rfl hok.out _ _ rfl HAT.out ?_
      (simp only [Act.put,sA,sB,sC])
      refine l_alloc rfl rfl ?_
      (simp only [Act.put,sA,sB,sC])
      refine l_store rfl _ _ rfl rfl _ (by simp [kl_len hok.out]) (all_oneCell_toArray (kl_one c)) rfl rfl ?_
      (simp only [Act.put])
      have HRG:=Lib.hid (new_range wr c)
      have HQ1:=Lib.hid (HQ.out.below (below_alloc wr (.cells (kl c).toArray 113)))
      clear HAT
      generalize wr.alloc (.cells (kl c).toArray 113)=W1 at HRG HQ1 ⊢
      have HEB:Hid (u < wr.heap.size):=Lib.hid (by have:=HQ.out.sto.u_lt;omega)
      generalize wr.heap.size=eb at HRG HEB ⊢
      refine wpList_nil ?_
      go_upto_region 18 with fail
      obtain ⟨D,hown⟩:=HQ1.out.sto.uses
      obtain ⟨v0,st,W2,x,hE,hg2,hlk,hlk2,hst⟩:=entry_uses (W:=W1.drew) hown.drew (by have:=HL.out.1;simp only [maxLen];omega) hok.out
      obtain ⟨W3,D3,hE3,hown3,hg3⟩:=hst (IntKind.i64.wrap (x + 1)) (inI_wrap _)
      have HS1:=Lib.hid (And.intro (HQ1.out.sto.below (below_drew0 (n:=1))).cells0 ((World.rangeAt_drew _ _ _ _).2 HRG.out))
      have hub:=HQ1.out.sto.u_ne
      have hkeep:∀{X Y:World},X.grownBy Y (some u)→X.cell? ⟨b,0,none⟩=some (.map (some u))∧X.rangeAt eb 0 (kl c)→Y.cell? ⟨b,0,none⟩=some (.map (some u))∧Y.rangeAt eb 0 (kl c):=fun hg h=> ⟨hg.cell h.1 (fun e=> hub (by injection e)),fun k v hv=> hg.cell (h.2 k v hv) (fun e=> absurd (Option.some.inj e) (by have:=HEB.out;show eb≠u;omega))⟩
      have HS2:=Lib.hid (hkeep hg2 HS1.out)
      have HS3:=Lib.hid (hkeep hg3 HS2.out)
      have hg23:W1.drew.grownBy W3 (some u):=hg2.andThen hg3 (fun k e=> Or.inr e)
      have HQ3:Hid (PS b u lo hi rb M T (n + (j + 1)) w1 (.slice (some ⟨g,0,none⟩) m fc) f (.slice na ((T i).files.map (·.1)).length nc) ((T i).files.map (·.1)) W3):=Lib.hid ((HQ1.out.below (below_drew0 (n:=1))).turn ((HQ1.out.sto.below (below_drew0 (n:=1))).used hown3 hg23 (by omega)) (Out.of_grown hg23 HQ1.out.sto.u_in.1 HQ1.out.sto.u_in.2))
      clear hkeep hub hg2 hg3 hg23 hown hown3 hst HQ1 HRG
      refine wp_region_held_drew (S:=fun W=> W.cell? ⟨b,0,none⟩=some (.map (some u))∧W.rangeAt eb 0 (kl c)) (by kernel_rfl) ?_ (fun hHeld=> ?_)
      focus (exact HS1.out)
      refine wpAnyH_takes (by kernel_rfl) (fun d _ _ _ _ h=> by cases d <;> exact h) [0,1,2,3,4] 5 _ _ _ ?_ _ (by rfl) (by kernel_rfl) ?_ (by assumption) ?_
      rotate_left
      focus
       simp only [pick_lit,tA,tB,tC,tD]
       (refine twT ?_;try simp only [Act.put,sA,sC,sB])
       (refine twT ?_;try simp only [Act.put,sA,sC,sB])
       (refine twT ?_;try simp only [Act.put,sA,sC,sB])
       (refine twT ?_;try simp only [Act.put,sA,sC,sB])
       (refine Takes.want (kv c) (by rfl) (fun w' hw'=> e_load _ rfl hok.out _ _ rfl hw'.2) ?_;try simp only [Act.put,sA,sC,sB])
       exact Takes.done
      refine wpAnyH_two 5 7 (fuel:=4) (by kernel_rfl) (by rfl) (fun K hK=> ?_) (fun K hK=> ?_)
      ·simp only [pick_lit,tA,tB,tC,tD,AtOps]
       rw [if_pos (by rfl)]
       refine wp_value (e_look (.tmp 64) (.tmp 65) rfl rfl rfl hlk) ?_
       refine hK.out _ _ ?_ (fun hHeld=> ?_)
       focus (exact HS1.out)
       clear hK K
       try simp only [Act.put,sA,sC,sB]
       refine wpAnyH_takes (by kernel_rfl) (fun d _ _ _ _ h=> by cases d <;> exact h) [6] 3 _ _ _ ?_ _ (by rfl) (by kernel_rfl) ?_ (by assumption) ?_
       rotate_left
       focus
        simp only [pick_lit,tA,tB,tC,tD]
        (refine twT ?_;try simp only [Act.put,sA,sC,sB])
        exact Takes.done
       refine wpAnyH_one 7 (fuel:=2) (by kernel_rfl) (by rfl) (fun K hK=> ?_)
       simp only [pick_lit,tA,tB,tC,tD,AtOps]
       rw [if_pos (by rfl)]
       refine wp_value (e_entry (.tmp 64) (.tmp 65) rfl rfl rfl hE) ?_
       refine hK.out _ _ ?_ (fun hHeld=> ?_)
       focus (exact HS2.out)
       clear hK K
       try simp only [Act.put,sA,sC,sB]
       refine wpAnyH_takes (by kernel_rfl) (fun d _ _ _ _ h=> by cases d <;> exact h) [8] 1 _ _ _ ?_ _ (by rfl) (by kernel_rfl) ?_ (by assumption) ?_
       rotate_left
       focus
        simp only [pick_lit,tA,tB,tC,tD]
        (refine twT ?_;try simp only [Act.put,sA,sC,sB])
        exact Takes.done
       refine wpAnyH_one 9 (fuel:=0) (by kernel_rfl) (by rfl) (fun K hK=> ?_)
       simp only [pick_lit,tA,tB,tC,tD,AtOps]
       rw [if_pos (by rfl)]
       refine wp_estore (.tmp 64) (.tmp 69) (.tmp 67) rfl rfl rfl rfl hE3 ?_
       refine hK.out _ _ ?_ (fun hHeld=> ?_)
       focus (exact HS3.out)
       clear hK K
       try simp only [Act.put]
       refine wpAnyH_done (by kernel_rfl) ?_ _
       clear hHeld hE hE3 hlk hlk2
       go_wp2_with fail
       go_roundg (gk - 1)
       case measure=> omega
       exact ⟨j + 1,by omega,by rw [Int.natCast_add];rfl,HQ3⟩
      ·simp only [pick_lit,tA,tB,tC,tD,AtOps]
       rw [if_pos (by rfl)]
       refine wp_value (e_entry (.tmp 64) (.tmp 65) rfl rfl rfl hE) ?_
       refine hK.out _ _ ?_ (fun hHeld=> ?_)
       focus (exact HS2.out)
       clear hK K
       try simp only [Act.put,sA,sC,sB]
       refine wpAnyH_takes (by kernel_rfl) (fun d _ _ _ _ h=> by cases d <;> exact h) [8] 3 _ _ _ ?_ _ (by rfl) (by kernel_rfl) ?_ (by assumption) ?_
       rotate_left
       focus
        simp only [pick_lit,tA,tB,tC,tD]
        (refine twT ?_;try simp only [Act.put,sA,sC,sB])
        exact Takes.done
       refine wpAnyH_one 5 (fuel:=2) (by kernel_rfl) (by rfl) (fun K hK=> ?_)
       simp only [pick_lit,tA,tB,tC,tD,AtOps]
       rw [if_pos (by rfl)]
       refine wp_value (e_look (.tmp 64) (.tmp 65) rfl rfl rfl hlk2) ?_
       refine hK.out _ _ ?_ (fun hHeld=> ?_)
       focus (exact HS2.out)
       clear hK K
       try simp only [Act.put,sA,sC,sB]
       refine wpAnyH_takes (by kernel_rfl) (fun d _ _ _ _ h=> by cases d <;> exact h) [6] 1 _ _ _ ?_ _ (by rfl) (by kernel_rfl) ?_ (by assumption) ?_
       rotate_left
       focus
        simp only [pick_lit,tA,tB,tC,tD]
        (refine twT ?_;try simp only [Act.put,sA,sC,sB])
        exact Takes.done
       refine wpAnyH_one 9 (fuel:=0) (by kernel_rfl) (by rfl) (fun K hK=> ?_)
       simp only [pick_lit,tA,tB,tC,tD,AtOps]
       rw [if_pos (by rfl)]
       refine wp_estore (.tmp 64) (.tmp 69) (.tmp 67) rfl rfl rfl rfl hE3 ?_
       refine hK.out _ _ ?_ (fun hHeld=> ?_)
       focus (exact HS3.out)
       clear hK K
       try simp only [Act.put]
       refine wpAnyH_done (by kernel_rfl) ?_ _
       clear hHeld hE hE3 hlk hlk2
       go_wp2_with fail
       go_roundg (gk - 1)
       case measure=> omega
       exact ⟨j + 1,by omega,by rw [Int.natCast_add];rfl,HQ3⟩
     ·obtain rfl:j=m:=by omega
      go_upto_region 20 with fail
      have HSD:=Lib.hid (HQ.out.sto.below (below_drew0 (n:=1)))
      have hok:=HQ.out.sto.ok i h12
      have hnx1:=hok.lo
      have hnx2:=hok.hi
      have hjb:j≤10000:=HL.out.1
      obtain ⟨W2,hU,hfm,hg2⟩:=(HSD.out.files i h12).put (by simp only [maxLen];omega) (k:=(T i).next) (inI_small hnx1 (by omega)) hok.lt (v:= .slice fa j fc) (f:=f) (HQ.out.file.keep fun _ _=> rfl)
      have hbm:=HSD.out.m_ne h12
      have HS1:Hid (wr.drew.cell? ⟨b,1 + i * 2,none⟩=some (.map (some (M i)))∧wr.drew.cell? ⟨b,1 + i * 2 + 1,none⟩=some (.int .i64 (T i).next)):=Lib.hid ⟨(HSD.out.cells h12).1,(HSD.out.cells h12).2.1⟩
      have HS2:Hid (W2.cell? ⟨b,1 + i * 2,none⟩=some (.map (some (M i)))∧W2.cell? ⟨b,1 + i * 2 + 1,none⟩=some (.int .i64 (T i).next)):=Lib.hid ⟨hg2.cell HS1.out.1 fun e=> hbm (Option.some.inj e),hg2.cell HS1.out.2 fun e=> hbm (Option.some.inj e)⟩
      have HBX:Hid (∃C,W2.heap[b]? =some (.cells C 100 (0,0))):=Lib.hid (by
       obtain ⟨C,h1,_⟩:=HSD.out.box
       exact ⟨C,(hg2.block b HSD.out.b_lt fun e=> hbm (Option.some.inj e)).trans h1⟩)
      have HFM:=Lib.hid hfm
      have HG2:=Lib.hid hg2
      have HOKT:=Lib.hid hok
      have HOUT:=Lib.hid (HQ.out.out.trans (Out.of_below (below_drew0 (w:=wr) (n:=1))))
      clear hfm hg2 hbm hok HQ
      generalize hnx:(T i).next=nx at *
      have HNX:=Lib.hid hnx
      clear hnx
      refine wp_region_held_drew (S:=fun W=> W.cell? ⟨b,1 + i * 2,none⟩=some (.map (some (M i)))∧W.cell? ⟨b,1 + i * 2 + 1,none⟩=some (.int .i64 nx)) (by kernel_rfl) ?_ (fun hHeld=> ?_)
      focus (exact HS1.out)
      refine wpAnyH_takes (by kernel_rfl) (fun d _ _ _ _ h=> by cases d <;> exact h) [0,1,2,3,4,5,6,7,8] 1 _ _ _ ?_ _ (by rfl) (by kernel_rfl) ?_ (by assumption) ?_
      rotate_left
      focus
       simp only [pick_lit,tA,tB,tC,tD]
       (refine twT ?_;try simp only [Act.put,sA,sC,sB])
       (refine twT ?_;try simp only [Act.put,sA,sC,sB])
       (refine twT ?_;try simp only [Act.put,sA,sC,sB])
       (refine twT ?_;try simp only [Act.put,sA,sC,sB])
       (refine twT ?_;try simp only [Act.put,sA,sC,sB])
       (refine twT ?_;try simp only [Act.put,sA,sC,sB])
       (refine twT ?_;try simp only [Act.put,sA,sC,sB])
       (refine twT ?_;try simp only [Act.put,sA,sC,sB])
       (refine twT ?_;try simp only [Act.put,sA,sC,sB])
       exact Takes.done
      refine wpAnyH_one 9 (fuel:=0) (by kernel_rfl) (by rfl) (fun K hK=> ?_)
      simp only [pick_lit,tA,tB,tC,tD,AtOps]
      rw [if_pos (by rfl)]
      refine wp_mput (.tmp 74) (.tmp 78) (.tmp 79) rfl rfl rfl rfl hU ?_
      refine hK.out _ _ ?_ (fun hHeld=> ?_)
      focus (exact HS2.out)
      clear hK K
      try simp only [Act.put]
      refine wpAnyH_done (by kernel_rfl) ?_ _
      clear hHeld hU
      have f1:W2.frozen? ⟨b,1 + i * 2 + 1,none⟩=false:=by
       obtain ⟨C,hC⟩:=HBX.out
       exact frozen_of_row _ _ _ C 100 hC
      have c1:=HS2.out.2
      go_wp2_with fail
      go_ret2
      have hpn:=put_new (t:=T i) (f:=f) (len:=t.length) HFN.out (by rw [HSZE.out];exact hq)
      rw [HFQ.out,hpn,HNX.out,HM.out]
      have hgc:=Lib.grownBy_setCell W2 b (1 + i * 2 + 1) (.int .i64 (nx + 1))
      have hfs:fsize f=t.length:=by rw [←HFQ.out];exact fsize_chunks t
      refine ⟨rfl,(HSD.out.mono (n':=n + j + 1) (by omega)).turn h12 (t:=⟨nx + 1,(T i).files ++ [(nx,f)]⟩) HFM.out HG2.out ⟨by show (0:Int)≤nx + 1;omega,by show nx + 1≤((n + j + 1:Nat):Int);omega,fun p hp=> ?_,fun p hp=> ?_,fun p hp=> ?_,?_,?_⟩ (fun k hk hne=> hgc.block k hk fun e=> hne (Option.some.inj e)) (fun C hC=> Lib.heap_setCell_same (i:=1 + i * 2 + 1) hC _),(HOUT.out.trans (Out.of_grown HG2.out (HSD.out.m_in i h12).1 (HSD.out.m_in i h12).2)).trans (Out.of_grown hgc HSD.out.b_in.1 HSD.out.b_in.2)⟩
      ·rcases List.mem_append.1 hp with hp | hp
       ·have:=HOKT.out.lt p hp
        rw [HNX.out] at this
        show p.1 < nx + 1
        omega
       ·rw [List.mem_singleton.1 hp]
        show nx < nx + 1
        omega
      ·rcases List.mem_append.1 hp with hp | hp
       ·exact HOKT.out.ne p hp
       ·rw [List.mem_singleton.1 hp]
        exact HL.out.2
      ·rcases List.mem_append.1 hp with hp | hp
       ·exact HOKT.out.len p hp
       ·rw [List.mem_singleton.1 hp]
        show f.length≤10000
        rw [HM.out]
        exact hjb
      ·show tsize ((T i).files ++ [(nx,f)])≤1048576
       rw [tsize_push,hfs,HSZE.out]
       omega
      ·show ((T i).files ++ [(nx,f)]).length≤n + j + 1
       have:=HOKT.out.many
       rw [List.length_append]
       simp
       omega
end Go.Proofs.YtmgcnoigihdhpaaGreatDoor
namespace Go.Proofs.YtmgcnoigihdhpaaGreatDoor
open Go.RowKit Go.Maps Go.Shelf
set_option maxRecDepth 100000 in
set_option maxHeartbeats 4000000 in
theorem put_out (p:Value) (x:Int) (t:Value) (W:World) (hx:x < 0∨12≤x):Calls Tryz.prog 12 #[p,.int .i64 x,t] W fun e W'=> e= .returned (.tuple #[.int .i64 0,.int .i64 1])∧W'=W:=by
 go_enter Tryz.func12,Tryz.ntmps12
 go_wp2_with (go_at_call 26;refine (of_out p x _ hx).mono ?_;rintro r w1 ⟨rfl,rfl⟩)
 go_ret2
 exact ⟨rfl,rfl⟩
set_option maxRecDepth 100000 in
set_option maxHeartbeats 4000000 in
theorem drop_out (p:Value) (x:Int) (k:Value) (W:World) (hx:x < 0∨12≤x):Calls Tryz.prog 14 #[p,.int .i64 x,k] W fun e W'=> e= .returned (.int .i64 4)∧W'=W:=by
 go_enter Tryz.func14,Tryz.ntmps14
 go_wp2_with (go_at_call 26;refine (of_out p x _ hx).mono ?_;rintro r w1 ⟨rfl,rfl⟩)
 go_ret
 exact ⟨rfl,rfl⟩
set_option maxRecDepth 100000 in
set_option maxHeartbeats 4000000 in
theorem drop_none {b u lo hi rb n:Nat} {M:Nat→Nat} {T:Nat→Ten} {W:World} (h:Sto b u lo hi rb M T n W) {i:Nat} (h12:i < 12) {k:Int} (hk:inI k) (hf:getF (T i).files k=none):
  Calls Tryz.prog 14 #[.pointer (some ⟨b,0,none⟩),.int .i64 (i:Int),.int .i64 k] W fun e W'=> e= .returned (.int .i64 4)∧W'=W:=by
 have c0:=(h.cells h12).1
 have hlook:=(h.files i h12).look_none hk hf
 clear h hf
 go_enter Tryz.func14,Tryz.ntmps14
 go_wp2_with (go_at_call 26;refine (of_in b i _ h12).mono ?_;rintro r w1 ⟨rfl,rfl⟩)
 go_ret
 exact ⟨rfl,rfl⟩
structure QS (b u lo hi rb:Nat) (M:Nat→Nat) (T:Nat→Ten) (n:Nat) (W0:World) (fv:Value) (f:List Ch) (W:World):Prop where
 sto:Sto b u lo hi rb M T n W
 file:FileAt rb W fv f
 out:Out lo hi W0 W
section
variable {b u lo hi rb n : Nat} {M : Nat → Nat} {T : Nat → Ten} {W0 W : World} {fv : Value} {f : List Ch}
theorem QS.below (h:QS b u lo hi rb M T n W0 fv f W) {W':World} (hb:Below W.heap.size W W'):QS b u lo hi rb M T n W0 fv f W':=
 ⟨h.sto.below hb,h.file.keep fun g hg=> hb.block g (hf_lt h.file g hg).2,h.out.trans (Out.of_below hb)⟩
theorem QS.turn (h:QS b u lo hi rb M T n W0 fv f W) {W':World} {T':Nat→Ten} {n':Nat} (hs:Sto b u lo hi rb M T' n' W') (ho:Out lo hi W W'):QS b u lo hi rb M T' n' W0 fv f W':=
 ⟨hs,h.file.keep fun g hg=> ho.block g (hf_lt h.file g hg).2 (Or.inr (Nat.le_trans h.sto.rb (hf_lt h.file g hg).1)),h.out.trans ho⟩
end
theorem tsize_filter (q:Int×List Ch→Bool):∀L:Fls,tsize (L.filter q)≤tsize L
 | []=> Nat.le_refl _
 | p::L=> by
  have:=tsize_filter q L
  unfold tsize at this ⊢
  by_cases h:q p=true
  ·rw [List.filter_cons_of_pos h]
   simp only [List.map_cons,List.sum_cons]
   omega
  ·rw [List.filter_cons_of_neg h]
   simp only [List.map_cons,List.sum_cons]
   omega
abbrev QSH (b u lo hi rb:Nat) (M:Nat→Nat) (T:Nat→Ten) (n:Nat) (W0:World) (fv:Value) (f:List Ch) (W:World):Prop:=Hid (QS b u lo hi rb M T n W0 fv f W)
theorem wp_delete {o:Oper} {a:Act} {w w':World} {K:Act→World→Prop} {Q:Exit→Act→World→Prop} (m x:Operand) (ho:o.op= .call {callee:= .builtin .delete,args:= #[m,x],argTypes:= #[94,113]}) {mv xv:Value} (hm:a.eval m=mv) (hx:a.eval x=xv)
  (hrun:(Builtin.delete_ #[94,113] 0 #[mv,xv]).run Tryz.prog w= .ok (.tuple #[]) w') (h:K (a.put o.dst (.tuple #[])) w'):o.wp Tryz.prog a w K Q:=by
 have hrun':(Builtin.delete_ #[94,113] o.type #[mv,xv]).run Tryz.prog w= .ok (.tuple #[]) w':=hrun
 unfold Oper.wp execOp
 simp only [ho,resolve,invoke,builtin,Sem.run_bind,Sem.run_pure,Result.andThen_ok,List.map_toArray,List.map_cons,List.map_nil,hm,hx,hrun']
 exact h
set_option maxRecDepth 100000 in
set_option maxHeartbeats 8000000 in
theorem drop_some {b u lo hi rb n:Nat} {M:Nat→Nat} {T:Nat→Ten} {W:World} (h:Sto b u lo hi rb M T n W) (hn:n≤500000) {i:Nat} (h12:i < 12) {k:Int} (hk:inI k) {f:List Ch} (hf:getF (T i).files k=some f):
  Calls Tryz.prog 14 #[.pointer (some ⟨b,0,none⟩),.int .i64 (i:Int),.int .i64 k] W fun e W'=> e= .returned (.int .i64 0)∧Sto b u lo hi rb M (upd T i ⟨(T i).next,(T i).files.filter fun p=> p.1 !=k⟩) (n + f.length) W'∧Out lo hi W W':=by
 have c0:=(h.cells h12).1
 obtain ⟨v,hv,hlook,_⟩:=(h.files i h12).look_ok hk hf
 obtain ⟨fa,fc,rfl,hfc⟩:=hv.slice
 have HQ:Hid (QS b u lo hi rb M T n W (.slice fa f.length fc) f W):=Lib.hid ⟨h,hv,Out.refl _ _ _⟩
 have HL:=Lib.hid ((h.ok i h12).len _ (getF_mem hf))
 clear h hf hv hfc
 generalize hm:f.length=m at *
 have HM:=Lib.hid hm
 clear hm
 have hm6:m≤10000:=HL.out
 go_enter Tryz.func14,Tryz.ntmps14
 go_wp2_with (go_at_call 26;refine (of_in b i _ h12).mono ?_;rintro r w1 ⟨rfl,rfl⟩)
 clear hlook c0
 go_loopg [34] m (fun q y W=> ∃j:Nat,j + q=m∧y= .int .i64 j∧QSH b u lo hi rb M T (n + j) w1 (.slice fa m fc) f W)
 case atStart=> exact ⟨0,by omega,rfl,HQ⟩
 case round=>
  obtain ⟨j,hj,rfl,HR⟩:=hrel
  clear HQ
  by_cases hjm:j < m
  ·obtain ⟨c,hc⟩:∃c,f[j]? =some c:=⟨_,List.getElem?_eq_getElem (by rw [HM.out];exact hjm)⟩
   obtain ⟨fa',fc',hfe,hrg⟩:=HR.out.file.slice
   rw [HM.out] at hfe
   injection hfe with hf1 hf2 hf3
   obtain ⟨g,rfl,_,hg,hat⟩:∃g,fa'=some ⟨g,0,none⟩∧rb≤g∧g < wr.heap.size∧∀i c,f[i]? =some c→wr.rangeAt g (i * 33) (kl c):=hrg.resolve_left fun e=> by rw [e] at hc;simp at hc
   have HAT:=Lib.hid (hat j c hc)
   have hok:=Lib.hid (HR.out.file.1 c (List.mem_of_getElem? hc))
   subst hf1
   clear hf2 hf3 hrg hat hg hc
   go_upto_region 9 with fail
   refine wp_region_lit ?_
   (refine rdT ?_;simp only [Act.put,sA,sB,sC])
   refine l_load rfl _ rfl hok.out _ _ rfl HAT.out ?_
   (simp only [Act.put,sA,sB,sC])
   refine l_alloc rfl rfl ?_
   (simp only [Act.put,sA,sB,sC])
   refine l_store rfl _ _ rfl rfl _ (by simp [kl_len hok.out]) (all_oneCell_toArray (kl_one c)) rfl rfl ?_
   (simp only [Act.put])
   have HRG:=Lib.hid (new_range wr c)
   have HQ1:=Lib.hid (HR.out.below (below_alloc wr (.cells (kl c).toArray 113)))
   have HEB:Hid (u < wr.heap.size):=Lib.hid (by have:=HR.out.sto.u_lt;omega)
   clear HAT HR
   generalize wr.alloc (.cells (kl c).toArray 113)=W1 at HRG HQ1 ⊢
   generalize wr.heap.size=eb at HRG HEB ⊢
   refine wpList_nil ?_
   go_upto_region 10 with fail
   obtain ⟨D,hown⟩:=HQ1.out.sto.uses
   obtain ⟨v0,st,W2,x,hE,hg2,hlk,hlk2,hst⟩:=entry_uses (W:=W1.drew) hown.drew (by simp only [maxLen];omega) hok.out
   obtain ⟨W3,D3,hE3,hown3,hg3⟩:=hst (IntKind.i64.wrap (x - 1)) (inI_wrap _)
   have HS1:=Lib.hid (And.intro (HQ1.out.sto.below (below_drew0 (n:=1))).cells0 ((World.rangeAt_drew _ _ _ _).2 HRG.out))
   have hub:=HQ1.out.sto.u_ne
   have hkeep:∀{X Y:World},X.grownBy Y (some u)→X.cell? ⟨b,0,none⟩=some (.map (some u))∧X.rangeAt eb 0 (kl c)→Y.cell? ⟨b,0,none⟩=some (.map (some u))∧Y.rangeAt eb 0 (kl c):=fun hg h=> ⟨hg.cell h.1 (fun e=> hub (by injection e)),fun k v hv=> hg.cell (h.2 k v hv) (fun e=> absurd (Option.some.inj e) (by have:=HEB.out;show eb≠u;omega))⟩
   have HS2:=Lib.hid (hkeep hg2 HS1.out)
   have HS3:=Lib.hid (hkeep hg3 HS2.out)
   have hg23:W1.drew.grownBy W3 (some u):=hg2.andThen hg3 (fun k e=> Or.inr e)
   have HQ3:QSH b u lo hi rb M T (n + (j + 1)) w1 (.slice (some ⟨g,0,none⟩) m fc) f W3:=Lib.hid ((HQ1.out.below (below_drew0 (n:=1))).turn ((HQ1.out.sto.below (below_drew0 (n:=1))).used hown3 hg23 (by omega)) (Out.of_grown hg23 HQ1.out.sto.u_in.1 HQ1.out.sto.u_in.2))
   clear hkeep hub hg2 hg3 hg23 hown hown3 hst HQ1 HRG
   refine wp_region_held_drew (S:=fun W=> W.cell? ⟨b,0,none⟩=some (.map (some u))∧W.rangeAt eb 0 (kl c)) (by kernel_rfl) ?_ (fun hHeld=> ?_)
   focus (exact HS1.out)
   refine wpAnyH_takes (by kernel_rfl) (fun d _ _ _ _ h=> by cases d <;> exact h) [0,1,2,3,4] 5 _ _ _ ?_ _ (by rfl) (by kernel_rfl) ?_ (by assumption) ?_
   rotate_left
   focus
    simp only [pick_lit,tA,tB,tC,tD]
    (refine twT ?_;try simp only [Act.put,sA,sC,sB])
    (refine twT ?_;try simp only [Act.put,sA,sC,sB])
    (refine twT ?_;try simp only [Act.put,sA,sC,sB])
    (refine twT ?_;try simp only [Act.put,sA,sC,sB])
    (refine Takes.want (kv c) (by rfl) (fun w' hw'=> e_load _ rfl hok.out _ _ rfl hw'.2) ?_;try simp only [Act.put,sA,sC,sB])
    exact Takes.done
   refine wpAnyH_two 5 7 (fuel:=4) (by kernel_rfl) (by rfl) (fun K hK=> ?_) (fun K hK=> ?_)
   ·simp only [pick_lit,tA,tB,tC,tD,AtOps]
    rw [if_pos (by rfl)]
    refine wp_value (e_look (.tmp 41) (.tmp 42) rfl rfl rfl hlk) ?_
    refine hK.out _ _ ?_ (fun hHeld=> ?_)
    focus (exact HS1.out)
    clear hK K
    try simp only [Act.put,sA,sC,sB]
    refine wpAnyH_takes (by kernel_rfl) (fun d _ _ _ _ h=> by cases d <;> exact h) [6] 3 _ _ _ ?_ _ (by rfl) (by kernel_rfl) ?_ (by assumption) ?_
    rotate_left
    focus
     simp only [pick_lit,tA,tB,tC,tD]
     (refine twT ?_;try simp only [Act.put,sA,sC,sB])
     exact Takes.done
    refine wpAnyH_one 7 (fuel:=2) (by kernel_rfl) (by rfl) (fun K hK=> ?_)
    simp only [pick_lit,tA,tB,tC,tD,AtOps]
    rw [if_pos (by rfl)]
    refine wp_value (e_entry (.tmp 41) (.tmp 42) rfl rfl rfl hE) ?_
    refine hK.out _ _ ?_ (fun hHeld=> ?_)
    focus (exact HS2.out)
    clear hK K
    try simp only [Act.put,sA,sC,sB]
    refine wpAnyH_takes (by kernel_rfl) (fun d _ _ _ _ h=> by cases d <;> exact h) [8] 1 _ _ _ ?_ _ (by rfl) (by kernel_rfl) ?_ (by assumption) ?_
    rotate_left
    focus
     simp only [pick_lit,tA,tB,tC,tD]
     (refine twT ?_;try simp only [Act.put,sA,sC,sB])
     exact Takes.done
    refine wpAnyH_one 9 (fuel:=0) (by kernel_rfl) (by rfl) (fun K hK=> ?_)
    simp only [pick_lit,tA,tB,tC,tD,AtOps]
    rw [if_pos (by rfl)]
    refine wp_estore (.tmp 41) (.tmp 46) (.tmp 44) rfl rfl rfl rfl hE3 ?_
    refine hK.out _ _ ?_ (fun hHeld=> ?_)
    focus (exact HS3.out)
    clear hK K
    try simp only [Act.put]
    refine wpAnyH_done (by kernel_rfl) ?_ _
    clear hHeld hE hE3 hlk hlk2
    go_upto_region 11 with fail
    have HQ4:=Lib.hid (HQ3.out.below (below_drew0 (n:=1)))
    have HS4:=Lib.hid (And.intro HQ4.out.sto.cells0 ((World.rangeAt_drew _ _ _ _).2 HS3.out.2))
    obtain ⟨D4,hown4⟩:=HQ4.out.sto.uses
    obtain ⟨kc,hkc⟩:=key_ex hok.out
    obtain ⟨y,hly,_,_⟩:=uses_look hown4 hkc
    refine wp_region_still_lit (by kernel_rfl) (by kernel_rfl) ?_
    have hc4:W3.cell? ⟨b,0,none⟩=some (.map (some u)):=HS3.out.1
    (refine svT ?_;simp only [Act.put,sA,sB,sC])
    (refine svT ?_;simp only [Act.put,sA,sB,sC])
    (refine svT ?_;simp only [Act.put,sA,sB,sC])
    (refine svT ?_;simp only [Act.put,sA,sB,sC])
    refine s_val rfl _ (e_load _ rfl hok.out _ _ rfl HS4.out.2) ?_
    (simp only [Act.put,sA,sB,sC])
    refine s_val rfl _ (e_look (.tmp 50) (.tmp 51) rfl rfl rfl hly) ?_
    (simp only [Act.put,sA,sB,sC])
    (refine svT ?_;simp only [Act.put,sA,sB,sC])
    refine wpStill_nil ?_
    clear hc4 hly
    change QSH b u lo hi rb M T (n + (j + 1)) w1 (.slice (some ⟨g,0,none⟩) m fc) f {W3 with drawn:=W3.drawn + 1} at HQ4
    change Hid (({W3 with drawn:=W3.drawn + 1}:World).cell? ⟨b,0,none⟩=some (.map (some u))∧({W3 with drawn:=W3.drawn + 1}:World).rangeAt eb 0 (kl c)) at HS4
    change ({W3 with drawn:=W3.drawn + 1}:World).ownsMap _ _ _ _ _ _ at hown4
    have HO4:=Lib.hid hown4
    clear hown4
    generalize ({W3 with drawn:=W3.drawn + 1}:World)=W4 at HQ4 HS4 HO4 ⊢
    by_cases hy:y=0
    ·subst hy
     go_upto_region 12 with fail
     obtain ⟨W5,hdel,hown5,ht5⟩:=HO4.out.drew.drop keyed113 Tryz.underlying94 hkc 0
     have HQ5:QSH b u lo hi rb M T (n + (j + 1)) w1 (.slice (some ⟨g,0,none⟩) m fc) f W5:=Lib.hid ((HQ4.out.below (below_drew0 (n:=1))).turn ((HQ4.out.sto.below (below_drew0 (n:=1))).used hown5 ht5.grown (Nat.le_refl _)) (Out.of_grown ht5.grown HQ4.out.sto.u_in.1 HQ4.out.sto.u_in.2))
     have HS5:=Lib.hid (And.intro HQ5.out.sto.cells0 (fun kk vv hv=> ht5.grown.cell (((World.rangeAt_drew _ _ _ _).2 HS4.out.2) kk vv hv) (fun e=> absurd (Option.some.inj e) (by have:=HEB.out;show eb≠u;omega))))
     have HS6:=Lib.hid (And.intro (HQ4.out.sto.below (below_drew0 (n:=1))).cells0 ((World.rangeAt_drew _ _ _ _).2 HS4.out.2))
     clear hown5 ht5 HO4
     refine wp_region_held_drew (S:=fun W=> W.cell? ⟨b,0,none⟩=some (.map (some u))∧W.rangeAt eb 0 (kl c)) (by kernel_rfl) ?_ (fun hHeld=> ?_)
     focus (exact HS6.out)
     refine wpAnyH_takes (by kernel_rfl) (fun d _ _ _ _ h=> by cases d <;> exact h) [0,1,2,3,4] 1 _ _ _ ?_ _ (by rfl) (by kernel_rfl) ?_ (by assumption) ?_
     rotate_left
     focus
      simp only [pick_lit,tA,tB,tC,tD]
      (refine twT ?_;try simp only [Act.put,sA,sC,sB])
      (refine twT ?_;try simp only [Act.put,sA,sC,sB])
      (refine twT ?_;try simp only [Act.put,sA,sC,sB])
      (refine twT ?_;try simp only [Act.put,sA,sC,sB])
      (refine Takes.want (kv c) (by rfl) (fun w' hw'=> e_load _ rfl hok.out _ _ rfl hw'.2) ?_;try simp only [Act.put,sA,sC,sB])
      exact Takes.done
     refine wpAnyH_one 5 (fuel:=0) (by kernel_rfl) (by rfl) (fun K hK=> ?_)
     simp only [pick_lit,tA,tB,tC,tD,AtOps]
     rw [if_pos (by rfl)]
     refine wp_delete (.tmp 57) (.tmp 58) rfl rfl rfl hdel ?_
     refine hK.out _ _ ?_ (fun hHeld=> ?_)
     focus (exact HS5.out)
     clear hK K
     try simp only [Act.put]
     refine wpAnyH_done (by kernel_rfl) ?_ _
     clear hHeld hdel
     go_wp2_with fail
     go_roundg (gk - 1)
     case measure=> omega
     exact ⟨j + 1,by omega,by rw [Int.natCast_add];rfl,HQ5⟩
    ·go_wp2_with fail
     go_roundg (gk - 1)
     case measure=> omega
     exact ⟨j + 1,by omega,by rw [Int.natCast_add];rfl,HQ4⟩
   ·simp only [pick_lit,tA,tB,tC,tD,AtOps]
    rw [if_pos (by rfl)]
    refine wp_value (e_entry (.tmp 41) (.tmp 42) rfl rfl rfl hE) ?_
    refine hK.out _ _ ?_ (fun hHeld=> ?_)
    focus (exact HS2.out)
    clear hK K
    try simp only [Act.put,sA,sC,sB]
    refine wpAnyH_takes (by kernel_rfl) (fun d _ _ _ _ h=> by cases d <;> exact h) [8] 3 _ _ _ ?_ _ (by rfl) (by kernel_rfl) ?_ (by assumption) ?_
    rotate_left
    focus
     simp only [pick_lit,tA,tB,tC,tD]
     (refine twT ?_;try simp only [Act.put,sA,sC,sB])
     exact Takes.done
    refine wpAnyH_one 5 (fuel:=2) (by kernel_rfl) (by rfl) (fun K hK=> ?_)
    simp only [pick_lit,tA,tB,tC,tD,AtOps]
    rw [if_pos (by rfl)]
    refine wp_value (e_look (.tmp 41) (.tmp 42) rfl rfl rfl hlk2) ?_
    refine hK.out _ _ ?_ (fun hHeld=> ?_)
    focus (exact HS2.out)
    clear hK K
    try simp only [Act.put,sA,sC,sB]
    refine wpAnyH_takes (by kernel_rfl) (fun d _ _ _ _ h=> by cases d <;> exact h) [6] 1 _ _ _ ?_ _ (by rfl) (by kernel_rfl) ?_ (by assumption) ?_
    rotate_left
    focus
     simp only [pick_lit,tA,tB,tC,tD]
     (refine twT ?_;try simp only [Act.put,sA,sC,sB])
     exact Takes.done
    refine wpAnyH_one 9 (fuel:=0) (by kernel_rfl) (by rfl) (fun K hK=> ?_)
    simp only [pick_lit,tA,tB,tC,tD,AtOps]
    rw [if_pos (by rfl)]
    refine wp_estore (.tmp 41) (.tmp 46) (.tmp 44) rfl rfl rfl rfl hE3 ?_
    refine hK.out _ _ ?_ (fun hHeld=> ?_)
    focus (exact HS3.out)
    clear hK K
    try simp only [Act.put]
    refine wpAnyH_done (by kernel_rfl) ?_ _
    clear hHeld hE hE3 hlk hlk2
    go_upto_region 11 with fail
    have HQ4:=Lib.hid (HQ3.out.below (below_drew0 (n:=1)))
    have HS4:=Lib.hid (And.intro HQ4.out.sto.cells0 ((World.rangeAt_drew _ _ _ _).2 HS3.out.2))
    obtain ⟨D4,hown4⟩:=HQ4.out.sto.uses
    obtain ⟨kc,hkc⟩:=key_ex hok.out
    obtain ⟨y,hly,_,_⟩:=uses_look hown4 hkc
    refine wp_region_still_lit (by kernel_rfl) (by kernel_rfl) ?_
    have hc4:W3.cell? ⟨b,0,none⟩=some (.map (some u)):=HS3.out.1
    (refine svT ?_;simp only [Act.put,sA,sB,sC])
    (refine svT ?_;simp only [Act.put,sA,sB,sC])
    (refine svT ?_;simp only [Act.put,sA,sB,sC])
    (refine svT ?_;simp only [Act.put,sA,sB,sC])
    refine s_val rfl _ (e_load _ rfl hok.out _ _ rfl HS4.out.2) ?_
    (simp only [Act.put,sA,sB,sC])
    refine s_val rfl _ (e_look (.tmp 50) (.tmp 51) rfl rfl rfl hly) ?_
    (simp only [Act.put,sA,sB,sC])
    (refine svT ?_;simp only [Act.put,sA,sB,sC])
    refine wpStill_nil ?_
    clear hc4 hly
    change QSH b u lo hi rb M T (n + (j + 1)) w1 (.slice (some ⟨g,0,none⟩) m fc) f {W3 with drawn:=W3.drawn + 1} at HQ4
    change Hid (({W3 with drawn:=W3.drawn + 1}:World).cell? ⟨b,0,none⟩=some (.map (some u))∧({W3 with drawn:=W3.drawn + 1}:World).rangeAt eb 0 (kl c)) at HS4
    change ({W3 with drawn:=W3.drawn + 1}:World).ownsMap _ _ _ _ _ _ at hown4
    have HO4:=Lib.hid hown4
    clear hown4
    generalize ({W3 with drawn:=W3.drawn + 1}:World)=W4 at HQ4 HS4 HO4 ⊢
    by_cases hy:y=0
    ·subst hy
     go_upto_region 12 with fail
     obtain ⟨W5,hdel,hown5,ht5⟩:=HO4.out.drew.drop keyed113 Tryz.underlying94 hkc 0
     have HQ5:QSH b u lo hi rb M T (n + (j + 1)) w1 (.slice (some ⟨g,0,none⟩) m fc) f W5:=Lib.hid ((HQ4.out.below (below_drew0 (n:=1))).turn ((HQ4.out.sto.below (below_drew0 (n:=1))).used hown5 ht5.grown (Nat.le_refl _)) (Out.of_grown ht5.grown HQ4.out.sto.u_in.1 HQ4.out.sto.u_in.2))
     have HS5:=Lib.hid (And.intro HQ5.out.sto.cells0 (fun kk vv hv=> ht5.grown.cell (((World.rangeAt_drew _ _ _ _).2 HS4.out.2) kk vv hv) (fun e=> absurd (Option.some.inj e) (by have:=HEB.out;show eb≠u;omega))))
     have HS6:=Lib.hid (And.intro (HQ4.out.sto.below (below_drew0 (n:=1))).cells0 ((World.rangeAt_drew _ _ _ _).2 HS4.out.2))
     clear hown5 ht5 HO4
     refine wp_region_held_drew (S:=fun W=> W.cell? ⟨b,0,none⟩=some (.map (some u))∧W.rangeAt eb 0 (kl c)) (by kernel_rfl) ?_ (fun hHeld=> ?_)
     focus (exact HS6.out)
     refine wpAnyH_takes (by kernel_rfl) (fun d _ _ _ _ h=> by cases d <;> exact h) [0,1,2,3,4] 1 _ _ _ ?_ _ (by rfl) (by kernel_rfl) ?_ (by assumption) ?_
     rotate_left
     focus
      simp only [pick_lit,tA,tB,tC,tD]
      (refine twT ?_;try simp only [Act.put,sA,sC,sB])
      (refine twT ?_;try simp only [Act.put,sA,sC,sB])
      (refine twT ?_;try simp only [Act.put,sA,sC,sB])
      (refine twT ?_;try simp only [Act.put,sA,sC,sB])
      (refine Takes.want (kv c) (by rfl) (fun w' hw'=> e_load _ rfl hok.out _ _ rfl hw'.2) ?_;try simp only [Act.put,sA,sC,sB])
      exact Takes.done
     refine wpAnyH_one 5 (fuel:=0) (by kernel_rfl) (by rfl) (fun K hK=> ?_)
     simp only [pick_lit,tA,tB,tC,tD,AtOps]
     rw [if_pos (by rfl)]
     refine wp_delete (.tmp 57) (.tmp 58) rfl rfl rfl hdel ?_
     refine hK.out _ _ ?_ (fun hHeld=> ?_)
     focus (exact HS5.out)
     clear hK K
     try simp only [Act.put]
     refine wpAnyH_done (by kernel_rfl) ?_ _
     clear hHeld hdel
     go_wp2_with fail
     go_roundg (gk - 1)
     case measure=> omega
     exact ⟨j + 1,by omega,by rw [Int.natCast_add];rfl,HQ5⟩
    ·go_wp2_with fail
     go_roundg (gk - 1)
     case measure=> omega
     exact ⟨j + 1,by omega,by rw [Int.natCast_add];rfl,HQ4⟩
  ·obtain rfl:j=m:=by omega
   have c0:=(HR.out.sto.cells h12).1
   obtain ⟨W2,hdel,hfm,hg2⟩:=(HR.out.sto.files i h12).drop hk 0
   have hdel':∀ty,(Builtin.delete_ #[95,3] ty #[.map (some (M i)),.int .i64 k]).run Tryz.prog wr= .ok (.tuple #[]) W2:=fun ty=> hdel
   have HFM:=Lib.hid hfm
   have HG2:=Lib.hid hg2
   have HOKT:=Lib.hid (HR.out.sto.ok i h12)
   clear hdel hfm hg2
   go_wp2_with fail
   go_ret
   have hok:TenOk (n + j) ⟨(T i).next,(T i).files.filter fun p=> p.1 !=k⟩:=⟨HOKT.out.lo,HOKT.out.hi,fun p hp=> HOKT.out.lt p (List.mem_filter.1 hp).1,fun p hp=> HOKT.out.ne p (List.mem_filter.1 hp).1,fun p hp=> HOKT.out.len p (List.mem_filter.1 hp).1,Nat.le_trans (tsize_filter _ _) HOKT.out.size,Nat.le_trans (List.length_filter_le _ _) HOKT.out.many⟩
   exact ⟨rfl,HR.out.sto.turn0 h12 HFM.out HG2.out hok,HR.out.out.trans (Out.of_grown HG2.out (HR.out.sto.m_in i h12).1 (HR.out.sto.m_in i h12).2)⟩
end Go.Proofs.YtmgcnoigihdhpaaGreatDoor
namespace Go.Proofs.YtmgcnoigihdhpaaGreatDoor
open Go.RowKit Go.Maps Go.Shelf
def putT (T:Nat→Ten) (x:Int) (t:List UInt8):(Nat→Ten)×Int×Int:=if 0≤x∧x < 12 then (upd T x.toNat (putOf (T x.toNat) (chunks t) t.length).1,(putOf (T x.toNat) (chunks t) t.length).2.1,(putOf (T x.toNat) (chunks t) t.length).2.2) else (T,0,1)
def dropT (T:Nat→Ten) (x k:Int):(Nat→Ten)×Int:=if 0≤x∧x < 12 then (match getF (T x.toNat).files k with | some _=> (upd T x.toNat ⟨(T x.toNat).next,(T x.toNat).files.filter fun p=> p.1 !=k⟩,0) | none=> (T,4)) else (T,4)
theorem chunks_le (t:List UInt8):(chunks t).length≤t.length:=by
 have key:∀n,∀t:List UInt8,t.length≤n→(chunks t).length≤t.length:=by
  intro n
  induction n with
  | zero=>
   intro t h
   have:t= []:=List.length_eq_zero_iff.1 (by omega)
   subst this
   rw [chunks_nil]
   exact Nat.le_refl _
  | succ n ih=>
   intro t h
   by_cases he:t= []
   ·subst he
    rw [chunks_nil]
    exact Nat.le_refl _
   ·have hpos:0 < t.length:=List.length_pos_iff.2 he
    have:=ih (t.drop 32) (by simp;omega)
    rw [chunks_cons he]
    simp at this ⊢
    omega
 exact key t.length t (Nat.le_refl _)
section
variable {b u lo hi rb n : Nat} {M : Nat → Nat} {T : Nat → Ten} {W : World}
theorem put_any (h:Sto b u lo hi rb M T n W) (hrb:rb≤W.heap.size) (hn:n≤400000) (x:Int) (t:List UInt8) (ht:t.length≤200):
  Calls Tryz.prog 12 #[.pointer (some ⟨b,0,none⟩),.int .i64 x,.string ⟨t.toArray⟩] W fun e W'=> e= .returned (.tuple #[.int .i64 (putT T x t).2.1,.int .i64 (putT T x t).2.2])∧Sto b u lo hi rb M (putT T x t).1 (n + 10000) W'∧Out lo hi W W':=by
 unfold putT
 by_cases hx:0≤x∧x < 12
 ·obtain ⟨i,rfl⟩:∃i:Nat,x=i:=⟨x.toNat,by omega⟩
  rw [if_pos hx,Int.toNat_natCast]
  refine (put_in h hrb (by omega) (by omega) t (by omega)).mono ?_
  rintro e W' ⟨rfl,h1,h2⟩
  have:=chunks_le t
  exact ⟨rfl,h1.mono (by omega),h2⟩
 ·rw [if_neg hx]
  refine (put_out _ x _ W (by omega)).mono ?_
  rintro e W' ⟨rfl,rfl⟩
  exact ⟨rfl,h.mono (by omega),Out.refl _ _ _⟩
theorem drop_any (h:Sto b u lo hi rb M T n W) (hn:n≤400000) (x k:Int) (hk:inI k):
  Calls Tryz.prog 14 #[.pointer (some ⟨b,0,none⟩),.int .i64 x,.int .i64 k] W fun e W'=> e= .returned (.int .i64 (dropT T x k).2)∧Sto b u lo hi rb M (dropT T x k).1 (n + 10000) W'∧Out lo hi W W':=by
 unfold dropT
 by_cases hx:0≤x∧x < 12
 ·obtain ⟨i,rfl⟩:∃i:Nat,x=i:=⟨x.toNat,by omega⟩
  rw [if_pos hx,Int.toNat_natCast]
  cases hf:getF (T i).files k with
  | none=>
   refine (drop_none h (by omega) hk hf).mono ?_
   rintro e W' ⟨rfl,rfl⟩
   exact ⟨rfl,h.mono (by omega),Out.refl _ _ _⟩
  | some f=>
   refine (drop_some h (by omega) (by omega) hk hf).mono ?_
   rintro e W' ⟨rfl,h1,h2⟩
   have:=(h.ok i (by omega)).len _ (getF_mem hf)
   exact ⟨rfl,h1.mono (by simp at this;omega),h2⟩
 ·rw [if_neg hx]
  refine (drop_out _ x _ W (by omega)).mono ?_
  rintro e W' ⟨rfl,rfl⟩
  exact ⟨rfl,h.mono (by omega),Out.refl _ _ _⟩
end
def T0:Nat→Ten:=fun _=> ⟨0,[]⟩
structure New0 (W0:World) (k:Nat) (W:World):Prop where
 box:∃C,W.heap[W0.heap.size + 1]? =some (.cells C 100 (0,0))∧C.size=25∧C[0]? =some (.map (some W0.heap.size))∧∀i,i < 12→C[1 + i * 2 + 1]? =some (.int .i64 0)∧(i < k→C[1 + i * 2]? =some (.map (some (W0.heap.size + 2 + i))))
 uses:W.heap[W0.heap.size]? =some (.map #[] 0)
 maps:∀i,i < k→W.heap[W0.heap.size + 2 + i]? =some (.map #[] 0)
 size:W.heap.size=W0.heap.size + 2 + k
 below:Below W0.heap.size W0 W
def box0 (u:Nat):Array Value:= #[.map (some u),.map none,.int .i64 0,.map none,.int .i64 0,.map none,.int .i64 0,.map none,.int .i64 0,.map none,.int .i64 0,.map none,.int .i64 0,.map none,.int .i64 0,.map none,.int .i64 0,.map none,.int .i64 0,.map none,.int .i64 0,.map none,.int .i64 0,.map none,.int .i64 0]
theorem new0 (W:World):New0 W 0 ((W.alloc (.map #[] 0)).alloc (.cells (box0 W.heap.size) 100)):=by
 refine ⟨⟨box0 W.heap.size,?_,rfl,rfl,fun i hi=> ⟨?_,fun h=> absurd h (by omega)⟩⟩,?_,fun i h=> absurd h (by omega),by simp,(below_alloc W _).trans ((below_alloc _ _).mono (by simp))⟩
 ·have:=heap_alloc_new (W.alloc (.map #[] 0)) (.cells (box0 W.heap.size) 100)
  rwa [World.size_alloc] at this
 ·match i,hi with
  | 0,_=> rfl
  | 1,_=> rfl
  | 2,_=> rfl
  | 3,_=> rfl
  | 4,_=> rfl
  | 5,_=> rfl
  | 6,_=> rfl
  | 7,_=> rfl
  | 8,_=> rfl
  | 9,_=> rfl
  | 10,_=> rfl
  | 11,_=> rfl
 ·exact (Below.heap_alloc _ _ _ (by simp)).trans (heap_alloc_new W _)
theorem New0.step {W wr:World} {k:Nat} (h:New0 W k wr) (hk:k < 12):New0 W (k + 1) ((wr.alloc (.map #[] 0)).setCell ⟨W.heap.size + 1,1 + k * 2,none⟩ (.map (some wr.heap.size))):=by
 obtain ⟨C,h1,h2,h3,h4⟩:=h.box
 have hb:(wr.alloc (.map #[] 0)).heap[W.heap.size + 1]? =some (.cells C 100 (0,0)):=(Below.heap_alloc _ _ _ (by have:=h.size;omega)).trans h1
 have hg:=Lib.grownBy_setCell (wr.alloc (.map #[] 0)) (W.heap.size + 1) (1 + k * 2) (.map (some wr.heap.size))
 have hsz:=h.size
 have blk:∀j,j < wr.heap.size→j≠W.heap.size + 1→((wr.alloc (.map #[] 0)).setCell ⟨W.heap.size + 1,1 + k * 2,none⟩ (.map (some wr.heap.size))).heap[j]? =wr.heap[j]? :=fun j hj hne=> (hg.block j (by simp;omega) fun e=> hne (Option.some.inj e)).trans (Below.heap_alloc _ _ _ hj)
 refine ⟨⟨_,Lib.heap_setCell_same (i:=1 + k * 2) hb _,by simpa using h2,by rw [Array.getElem?_setIfInBounds_ne (by omega)];exact h3,fun i hi=> ⟨by rw [Array.getElem?_setIfInBounds_ne (by omega)];exact (h4 i hi).1,fun hik=> ?_⟩⟩,(blk _ (by omega) (by omega)).trans h.uses,fun i hik=> ?_,by simp [World.setCell];omega,?_⟩
 ·by_cases e:i=k
  ·subst e
   rw [Array.getElem?_setIfInBounds_self_of_lt (by omega),hsz]
  ·rw [Array.getElem?_setIfInBounds_ne (by omega)]
   exact (h4 i hi).2 (by omega)
 ·by_cases e:i=k
  ·subst e
   rw [←hsz]
   exact (hg.block _ (by simp) fun e=> by have:=Option.some.inj e;omega).trans (heap_alloc_new wr _)
  ·exact (blk _ (by omega) (by omega)).trans (h.maps i (by omega))
 ·exact (h.below.alloc h.below.size _).grown hg (by simp;omega) fun j e=> by have:=Option.some.inj e;omega
set_option maxRecDepth 100000 in
set_option maxHeartbeats 4000000 in
theorem new_walk (W:World):Calls Tryz.prog 8 #[] W fun e W'=> e= .returned (.pointer (some ⟨W.heap.size + 1,0,none⟩))∧New0 W 12 W':=by
 have hmm:= @run_makeMap Tryz.prog
 go_enter Tryz.func8,Tryz.ntmps8
 go_upto_region 2 with fail
 have HN:=Lib.hid (new0 W)
 unfold box0 at HN
 generalize ((W.alloc (Obj.map #[] 0)).alloc _)=W1 at HN ⊢
 go_wp2_with fail
 go_loopg [6] 12 (fun q y W'=> ∃k:Nat,k + q=12∧y= .int .i64 k∧Hid (New0 W k W'))
 case atStart=> exact ⟨0,by omega,rfl,HN⟩
 case round=>
  obtain ⟨k,hk,rfl,HR⟩:=hrel
  clear HN
  by_cases hlt:k < 12
  ·have hx:(∃x,(wr.alloc (.map #[] 0)).cell? ⟨W.heap.size + 1,1 + k * 2,none⟩=some x)∧(wr.alloc (.map #[] 0)).frozen? ⟨W.heap.size + 1,1 + k * 2,none⟩=false:=by
    obtain ⟨C,h1,h2,_⟩:=HR.out.box
    have hb:(wr.alloc (.map #[] 0)).heap[W.heap.size + 1]? =some (.cells C 100 (0,0)):=(Below.heap_alloc _ _ _ (by have:=HR.out.size;omega)).trans h1
    exact ⟨⟨C[1 + k * 2]'(by omega),by rw [cell_of_row _ _ _ C 100 (0,0) hb];exact Array.getElem?_eq_getElem _⟩,frozen_of_row _ _ _ C 100 hb⟩
   obtain ⟨⟨x,hx1⟩,hx2⟩:=hx
   go_wp2_with fail
   go_roundg (gk - 1)
   case measure=> omega
   exact ⟨k + 1,by omega,by rw [Int.natCast_add];rfl,Lib.hid (HR.out.step hlt)⟩
  ·obtain rfl:k=12:=by omega
   go_wp2_with fail
   go_ret
   exact ⟨rfl,HR.out⟩
theorem new_sto {W W':World} (h:New0 W 12 W') {rb:Nat} (hrb:W.heap.size + 14≤rb):Sto (W.heap.size + 1) W.heap.size W.heap.size (W.heap.size + 14) rb (fun i=> W.heap.size + 2 + i) T0 0 W':=by
 obtain ⟨C,h1,h2,h3,h4⟩:=h.box
 have own:∀{H:Type} (m:Nat) (kt:TypeId) (R:Value→Option (DataW H×List MemPlace)),W'.heap[m]? =some (.map #[] 0)→W'.ownsMap Tryz.prog kt R m 0 (.map []):=fun {H} m kt R hm=> by
  obtain ⟨es,cl,e1,e2⟩:=World.ownsMap_made (H:=H) W Tryz.prog kt R
  rw [heap_alloc_new] at e1
  injection e1 with e1
  injection e1 with e1 e3
  subst e1 e3
  exact ⟨_,_,hm,e2⟩
 refine ⟨⟨C,h1,h2,h3,fun i hi=> ⟨(h4 i hi).2 hi,(h4 i hi).1⟩⟩,⟨_,own _ _ _ h.uses⟩,fun i hi=> ⟨⟨by simp [T0],List.Pairwise.nil⟩,_,own _ _ _ (h.maps i hi),fun k _=> ⟨rfl,fun f hf=> by cases hf⟩⟩,fun i hi=> ⟨by simp [T0],by simp [T0],by simp [T0],by simp [T0],by simp [T0],by simp [T0,tsize],by simp [T0]⟩,⟨by omega,by omega⟩,⟨by omega,by omega⟩,fun i hi=> ⟨by omega,by omega⟩,fun i j _ _ e=> by omega,fun i hi=> by omega,hrb⟩
end Go.Proofs.YtmgcnoigihdhpaaGreatDoor
