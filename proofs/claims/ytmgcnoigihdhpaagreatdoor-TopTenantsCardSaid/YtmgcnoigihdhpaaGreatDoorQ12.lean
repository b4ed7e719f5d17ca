/-
Evaluation of Go code on plain data: append, slice literals, calls. Over any program.
-/
import Derived.Test.YtmgcnoigihdhpaaGreatDoorQ11
import Derived.Laws.MakeOwn
import Derived.MapKept
namespace Go.Proofs.YtmgcnoigihdhpaaGreatDoor
open Go.RowKit
theorem Sim.upd {w0:Start} {A:Nat→Prop} {m:Mem} {κ:Cx} (h:Sim w0 A m κ) {w':World} {g:Nat} (hf:Free w0 m κ g)
  (hdr:κ.w.drawn≤w'.drawn) (ho:w'.os=κ.w.os) (ht:w'.tape=κ.w.tape) (hp:w'.output=κ.w.output) (hsz:w'.heap.size=κ.w.heap.size) (hw:∀b,b≠g→w'.heap[b]? =κ.w.heap[b]?):
  Sim w0 A m {κ with w:=w'}∧κ.Le {κ with w:=w'}:=by
 have hSw:∀b,κ.S b→w'.heap[b]? =κ.w.heap[b]? :=fun b hS=> hw b fun e=> hf.2.2.1 (e ▸ hS)
 have hle:κ.Le {κ with w:=w'}:=⟨fun _=> Nat.le_refl _,fun _ _ _=> rfl,fun _ h=> h,hSw⟩
 have hbel:BelowX w0.dr w0.o w0.w w':=h.below.step ho ht hp (by omega) (fun _=> hdr) fun k hk hne=> hw k fun e=> by
  rcases hf.1 with h1 | h1
  ·omega
  ·exact hne (by rw [e];exact h1)
 refine ⟨⟨hbel,h.gn,fun s g' i hi=> (h.ok s g' i hi).mono hle fun b hb=> hw b fun e=> hf.2.2.2 s g' i hi (e ▸ hb),h.gens,fun s g' i b hi hb=> ?_,h.notS,h.isS,h.sep,fun b hS=> ?_,h.args,h.pin⟩,hle⟩
 ·show _∧b < w'.heap.size
  rw [hsz]
  exact h.own s g' i b hi hb
 ·show b < w'.heap.size∧_
  rw [hsz]
  exact h.st b hS
section
variable {P : Program} {T : Nat → TI} {F : FuncId → List AV → AV → Prop} {w0 : Start} {A : Nat → Prop} {o : Oper} {a : Act} {κ : Cx} {m m' : Mem} {v : AV} {Q : Exit → Act → World → Prop} {env : Nat → Option AV}
theorem flat_src {xs:List (List D)} {y:Value} (h:Src κ xs y) {sz:Nat} (hall:∀c∈xs,c.length=sz):
  (xs= []∧∃A' c,y= .slice A' 0 c)∨(xs≠ []∧∃(b q c:Nat) (news:List Value),y= .slice (some ⟨b,q,none⟩) xs.length c∧news.length=xs.length * sz∧(∀(j:Nat) (u:Value),news[j]? =some u→κ.w.cell? ((⟨b,q,none⟩:Addr).add j)=some u)∧(∀u∈news,u.oneCell'=true)∧
   ∀(i j:Nat) (e:List D) (x:D),xs[i]? =some e→e[j]? =some x→∃u,news[i * sz + j]? =some u∧RelD κ.S κ.w x u):=by
 rcases h with h | ⟨b,q,c,sz',vs,rfl,hs,hc,hr⟩
 ·exact Or.inl h
 ·by_cases hx:xs= []
  ·subst hx
   exact Or.inl ⟨rfl,_,_,rfl⟩
  ·have hszz:sz'=sz:=by
    obtain ⟨e,es',rfl⟩:=List.exists_cons_of_ne_nil hx
    rw [←hs e (by simp),hall e (by simp)]
   subst hszz
   refine Or.inr ⟨hx,b,q,c,(List.range (xs.length * sz')).map vs,rfl,by simp,fun j u hu=> ?_,fun u hu=> ?_,fun i j e x he hx'=> ?_⟩
   ·have hlt:j < xs.length * sz':=by simpa using (List.getElem?_eq_some_iff.1 hu).1
    simp [hlt] at hu
    subst hu
    rw [add_eq]
    exact hc j hlt
   ·obtain ⟨j,hj,rfl⟩:=List.mem_map.1 hu
    have hlt:j < xs.length * sz':=List.mem_range.1 hj
    have hpos:0 < sz':=by
     rcases Nat.eq_zero_or_pos sz' with h0 | h0
     ·rw [h0,Nat.mul_zero] at hlt;omega
     ·exact h0
    have hd:j / sz' < xs.length:=Nat.div_lt_of_lt_mul (by rw [Nat.mul_comm];exact hlt)
    have hm:j % sz' < xs[j / sz'].length:=by rw [hs _ (List.getElem_mem hd)];exact Nat.mod_lt _ hpos
    have:=hr (j / sz') (j % sz') xs[j / sz'] (xs[j / sz'][j % sz']) (List.getElem?_eq_getElem hd) (List.getElem?_eq_getElem hm)
    rw [Nat.mul_comm (j / sz') sz',Nat.div_add_mod] at this
    exact this.one
   ·refine ⟨_,?_,hr i j e x he hx'⟩
    have h1:i < xs.length:=(List.getElem?_eq_some_iff.1 he).1
    have h2:j < e.length:=(List.getElem?_eq_some_iff.1 hx').1
    rw [hs e (List.mem_of_getElem? he)] at h2
    have:(i + 1) * sz'≤xs.length * sz':=Nat.mul_le_mul_right _ (by omega)
    rw [Nat.add_mul] at this
    have hlt:i * sz' + j < xs.length * sz':=by omega
    simp [hlt]
theorem run_app_grow (w:World) {t e ty:TypeId} {it:TypeInfo} {z:Value} (hu:P.underlying t=some (.slice e)) (hi:P.info? e=some it) (hz:it.zero=some z) {base:Option Addr} {n cap:Nat} {olds:List Value} (hlo:olds.length=n * it.size)
  (hbase:base=none→n=0∧cap=0) (holds:∀b,base=some b→∀(j:Nat) (u:Value),olds[j]? =some u→w.cell? (b.add j)=some u) {ad:Addr} {k c:Nat} {news:List Value} (hl:news.length=k * it.size)
  (hnews:∀(j:Nat) (u:Value),news[j]? =some u→w.cell? (ad.add j)=some u) (hg:cap < n + k) (hk:0 < k) (hby:(n + k) * it.bytes≤1000000000) (hn63:n + k≤9223372036854775807):
  (Builtin.append_ #[t,t] ty #[.slice base n cap,.slice (some ad) k c]).run P w=
   .ok (.slice (some ⟨w.heap.size,0,none⟩) (n + k) (grownCap w (n + k) cap e)) (w.drew.alloc (.cells (olds.toArray ++ news.toArray ++ Builtin.zeroCells z.cells (grownCap w (n + k) cap e - (n + k))) e)):=by
 cases base with
 | none=>
  obtain ⟨rfl,rfl⟩:=hbase rfl
  have ho:olds= []:=List.eq_nil_of_length_eq_zero (by simpa using hlo)
  subst ho
  have:=run_append_nil (P:=P) w t ty e it z hu hi hz ad k c news hl hnews hk (by omega) (by simp only [Nat.zero_add] at hby;omega)
  simpa using this
 | some b=> exact run_append_grow (P:=P) w t ty e it z hu hi hz b n cap olds hlo (holds b rfl) ad k c news hl hnews hg (by omega) (growslice_fits hg (by omega))
theorem run_app_none (w:World) {t e ty:TypeId} {it:TypeInfo} (hu:P.underlying t=some (.slice e)) (hi:P.info? e=some it) (base A':Option Addr) (n cap c:Nat) (h:n≤cap):
  (Builtin.append_ #[t,t] ty #[.slice base n cap,.slice A' 0 c]).run P w= .ok (.slice base n cap) w:=by
 cases A' <;> cases base <;> simp [Builtin.append_,run_underlying hu,sizeOf,typeInfo,hi,Builtin.lenOf,h,Builtin.firstCells,loadCells,loadCellsFrom,storeCells]
theorem run_app_room (w:World) {t e ty tt:TypeId} {it:TypeInfo} (hu:P.underlying t=some (.slice e)) (hi:P.info? e=some it) {g n cap:Nat} {cur:Array Value} (hg:w.heap[g]? =some (.cells cur tt (0,0)))
  {ad:Addr} {k c:Nat} {news:List Value} (hl:news.length=k * it.size) (hnews:∀(j:Nat) (u:Value),news[j]? =some u→w.cell? (ad.add j)=some u) (h1:∀u∈news,u.oneCell'=true) (hroom:n + k≤cap) (hfit:n * it.size + news.length≤cur.size):
  (Builtin.append_ #[t,t] ty #[.slice (some ⟨g,0,none⟩) n cap,.slice (some ad) k c]).run P w= .ok (.slice (some ⟨g,0,none⟩) (n + k) cap) (w.setRow g (over cur.toList (n * it.size) news).toArray):=by
 have hf:=run_firstCells_some (P:=P) w it.size k ad k c news hl hnews
 have hst:=run_storeCells_at P g (n * it.size) tt news 0 cur w hg (by simpa using hfit) h1
 simp only [Nat.add_zero] at hst
 simp [Builtin.append_,run_underlying hu,sizeOf,typeInfo,hi,Builtin.lenOf,hroom,hf,Addr.add_lit,hst,over]
theorem app_rows {κ':Cx} {olds news rest:List Value} {sz:Nat} {es xs:List (List D)} (hlo:olds.length=es.length * sz) {cur:Array Value} (hcur:cur.toList=olds ++ news ++ rest)
  (ho:∀(i j:Nat) (e:List D) (x:D),es[i]? =some e→e[j]? =some x→∃u,olds[i * sz + j]? =some u∧RelD κ'.S κ'.w x u)
  (hn:∀(i j:Nat) (e:List D) (x:D),xs[i]? =some e→e[j]? =some x→∃u,news[i * sz + j]? =some u∧RelD κ'.S κ'.w x u):RowAt κ' cur sz (es ++ xs):=by
 intro i j e x hi hj
 have get:∀(q:Nat) (u:Value),(olds ++ news ++ rest)[q]? =some u→cur[q]? =some u:=fun q u h=> by rw [←hcur,Array.getElem?_toList] at h;exact h
 rw [List.getElem?_append] at hi
 split at hi
 ·rename_i hlt
  obtain ⟨u,hu,hd⟩:=ho i j e x hi hj
  refine ⟨u,get _ _ ?_,hd⟩
  have h1:i * sz + j < olds.length:=(List.getElem?_eq_some_iff.1 hu).1
  rw [List.append_assoc,List.getElem?_append_left h1]
  exact hu
 ·rename_i hge
  obtain ⟨u,hu,hd⟩:=hn _ j e x hi hj
  refine ⟨u,get _ _ ?_,hd⟩
  have h1:(i - es.length) * sz + j < news.length:=(List.getElem?_eq_some_iff.1 hu).1
  have e1:i * sz + j=olds.length + ((i - es.length) * sz + j):=by
   rw [hlo,Nat.sub_mul]
   have:es.length * sz≤i * sz:=Nat.mul_le_mul_right _ (by omega)
   omega
  rw [List.append_assoc,e1,List.getElem?_append_right (by omega),Nat.add_sub_cancel_left,List.getElem?_append_left h1]
  exact hu
theorem appendF_inv {te:TI} {s:Nat} {x y:Option AV} (h:(appendF te s x y).Runs F m v m'):te.known=true∧0 < te.size∧te.bytes≤1000∧∃d,y=some d∧
  ((x=some .nl∧(elemsOf d fun es=> .chk ((∀c∈es,c.length=te.size)∧es.length≤1000000) (.new s (.rows te.size es false) fun g=> .ret (.row s g es.length))).Runs F m v m')∨
   (∃s g n,x=some (.row s g n)∧(elemsOf d fun es=> .chk ((∀c∈es,c.length=te.size)∧n + es.length≤1000000) (.app s g te.size es fun g'=> .ret (.row s g' (n + es.length)))).Runs F m v m')∨
   ∃s g n,x=some (.sub s g 0 n)∧(elemsOf d fun es=> .chk ((∀c∈es,c.length=te.size)∧n + es.length≤1000000) (.rww s g fun sz l=> .wr s g (.rows sz (l.take n) false) (.app s g te.size es fun g'=> .ret (.sub s g' 0 (n + es.length))))).Runs F m v m'):=by
 unfold appendF at h
 cases hb:(te.known && Nat.blt 0 te.size && Nat.ble te.bytes 1000)
 ·rw [hb] at h;cases h
 ·rw [hb] at h
  simp only [cond_true] at h
  simp only [Bool.and_eq_true] at hb
  refine ⟨hb.1.1,Nat.lt_of_succ_le (Nat.le_of_ble_eq_true hb.1.2),Nat.le_of_ble_eq_true hb.2,?_⟩
  split at h
  ·exact ⟨_,rfl,Or.inl ⟨rfl,h⟩⟩
  ·exact ⟨_,rfl,Or.inr (Or.inl ⟨_,_,_,rfl,h⟩)⟩
  ·exact ⟨_,rfl,Or.inr (Or.inr ⟨_,_,_,rfl,h⟩)⟩
  ·cases h
theorem sim_append (hT:TOk P T) (hs:Sim w0 A m κ) (he:EnvOk κ env a.tmps) {x y:Operand} {t e z s:Nat} (ho:o.op= .call {callee:= .builtin .append,args:= #[x,y],argTypes:= #[t,t]}) (hk:(T t).k= .slice e z) (h:(appendF (T e) s (rhoOf env x) (rhoOf env y)).Runs F m v m'):
  o.wp P a κ.w (fun a' w'=> After w0 A κ o v m' a a' w') Q:=by
 obtain ⟨hkn,hpos,hb1000,d,hy,h⟩:=appendF_inv h
 have hmul:∀n,n≤1000000→n * (T e).bytes≤1000000000:=fun n hn=> Nat.le_trans (Nat.mul_le_mul hn hb1000) (by decide)
 have ht:=hT e hkn
 obtain ⟨it,hit,hsz,hby,hz⟩:=ht.info
 obtain ⟨dd,hu,hd,_⟩:=hT.kok hk (by simp)
 have hd:dd=_:=hd
 subst hd
 have hrun:∀(r:Value) (w':World),(Builtin.append_ #[t,t] o.type #[a.eval x,a.eval y]).run P κ.w= .ok r w'→After w0 A κ o v m' a (a.put o.dst r) w'→o.wp P a κ.w (fun a' w'=> After w0 A κ o v m' a a' w') Q:=by
  intro r w' hr hK
  refine wp_val ?_ hK
  unfold execOp
  rw [ho]
  simp only [resolve,List.map_toArray,List.map_cons,List.map_nil,Sem.run_bind,Sem.run_pure,Result.andThen_ok,invoke,builtin,hr]
 have zsz:∀n,(Builtin.zeroCells (T e).zero.cells n).size=n * (T e).size:=fun n=> by rw [size_zeroCells,ht.zsz]
 have grow:∀(m1:Mem) (s1:Nat) (es xs:List (List D)) (base:Option Addr) (cap:Nat) (olds news:List Value) (b q c:Nat),Sim w0 A m1 κ→a.eval x= .slice base es.length cap→a.eval y= .slice (some ⟨b,q,none⟩) xs.length c→
   olds.length=es.length * (T e).size→(base=none→es.length=0∧cap=0)→(∀b,base=some b→∀(j:Nat) (u:Value),olds[j]? =some u→κ.w.cell? (b.add j)=some u)→news.length=xs.length * (T e).size→
   (∀(j:Nat) (u:Value),news[j]? =some u→κ.w.cell? ((⟨b,q,none⟩:Addr).add j)=some u)→cap < es.length + xs.length→0 < xs.length→(es.length + xs.length) * (T e).bytes≤1000000000→es.length + xs.length≤9223372036854775807→(∀e'∈es,e'.length=(T e).size)→(∀e'∈xs,e'.length=(T e).size)→
   (∀(i j:Nat) (e':List D) (x':D),es[i]? =some e'→e'[j]? =some x'→∃u,olds[i * (T e).size + j]? =some u∧RelD κ.S κ.w x' u)→(∀(i j:Nat) (e':List D) (x':D),xs[i]? =some e'→e'[j]? =some x'→∃u,news[i * (T e).size + j]? =some u∧RelD κ.S κ.w x' u)→
   v= .row s1 (m1.gen s1 + 1) (es.length + xs.length)→m'=m1.add s1 (.rows (T e).size (es ++ xs) false)→o.wp P a κ.w (fun a' w'=> After w0 A κ o v m' a a' w') Q:=by
  intro m1 s1 es xs base cap olds news b q c hs1 hex hey hlo hbase holds hl hnews hcap hxs hbytes h63 hes hxss hro hrn hv hm'
  have:=run_app_grow (ty:=o.type) κ.w hu hit hz (base:=base) (n:=es.length) (cap:=cap) (olds:=olds) (by rw [hsz];exact hlo) hbase holds (ad:=⟨b,q,none⟩) (k:=xs.length) (c:=c) (news:=news) (by rw [hsz];exact hl) hnews hcap hxs (by rw [hby];exact hbytes) h63
  rw [←hex,←hey] at this
  refine hrun _ _ this ?_
  generalize hgc:grownCap κ.w (es.length + xs.length) cap e=gc at *
  have hge:es.length + xs.length≤gc:=by rw [←hgc];exact grownCap_ge _ _ _ _
  have hgm:gc≤maxLen:=by rw [←hgc];exact grownCap_le_maxLen _ _ _ _ (by simp only [maxLen];omega)
  subst hv hm'
  have hbel:BelowD w0.dr κ.w.heap.size κ.w (κ.w.drew.alloc (.cells (olds.toArray ++ news.toArray ++ Builtin.zeroCells (T e).zero.cells (gc - (es.length + xs.length))) e)):=((BelowD.refl κ.w.heap.size κ.w).drew).alloc (Nat.le_refl _) _
  obtain ⟨q1,q2⟩:=hs1.add hbel s1 (.rows (T e).size (es ++ xs) false) ⟨some κ.w.heap.size,gc,(T e).size,es.length + xs.length⟩ (fun b hb=> by injection hb with hb;subst hb;exact hs1.fresh (Nat.le_refl _) (by simp)) rfl
   (fun hle=> ⟨by simp,fun e' he'=> by
     rcases List.mem_append.1 he' with h | h
     ·exact hes e' h
     ·exact hxss e' h,
    Or.inr ⟨κ.w.heap.size,e,_,rfl,rfl,heap_alloc_new κ.w.drew _,hge,hgm,by
      simp only [Array.size_append,List.size_toArray,zsz,hlo,hl,←Nat.add_mul]
      congr 1
      omega,
     app_rows (rest:=(Builtin.zeroCells (T e).zero.cells (gc - (es.length + xs.length))).toList) hlo (by simp) (fun i j e' x' h1 h2=> let ⟨u,h3,h4⟩:=hro i j e' x' h1 h2;⟨u,h3,hle.relD h4⟩) (fun i j e' x' h1 h2=> let ⟨u,h3,h4⟩:=hrn i j e' x' h1 h2;⟨u,h3,hle.relD h4⟩)⟩⟩)
  refine ⟨_,rfl,q1,q2,_,rfl,?_⟩
  rw [←hs1.gn]
  have:=Rel.row (κ:=κ.put s1 ⟨some κ.w.heap.size,gc,(T e).size,es.length + xs.length⟩ (κ.w.drew.alloc (.cells (olds.toArray ++ news.toArray ++ Builtin.zeroCells (T e).zero.cells (gc - (es.length + xs.length))) e))) (s:=s1) (g:=κ.gn s1 + 1) (b:=κ.w.heap.size) (by rw [Cx.put_gn];exact Nat.le_refl _) (by rw [Cx.put_new])
  rw [Cx.put_new] at this
  exact this
 have onto:∀(m1:Mem) (s1 b0 cap n:Nat) (tt:TypeId) (cur:Array Value) (es xs:List (List D)),Sim w0 A m1 κ→Free w0 m1 κ b0→Src κ xs (a.eval y)→a.eval x= .slice (some ⟨b0,0,none⟩) n cap→es.length=n→(∀e'∈es,e'.length=(T e).size)→n≤cap→cap≤maxLen→κ.w.heap[b0]? =some (.cells cur tt (0,0))→cur.size=cap * (T e).size→RowAt κ cur (T e).size es→(∀c∈xs,c.length=(T e).size)→n + xs.length≤1000000→
   (∀κ' b c,m.gen s1 + 1≤κ'.gn s1→κ'.φ s1 (m.gen s1 + 1)=⟨some b,c,(T e).size,n + xs.length⟩→Rel κ' v (.slice (some ⟨b,0,none⟩) (n + xs.length) c))→m1.gen=m.gen→m'=m1.add s1 (.rows (T e).size (es ++ xs) false)→o.wp P a κ.w (fun a' w'=> After w0 A κ o v m' a a' w') Q:=by
  intro m1 s1 b0 cap n tt cur es xs hs1 hfree hsrc hyx' hlen' e2 hlc hcm hh hcs hra hall hbytes hv hgen hm'
  subst hm'
  have hgn:κ.gn s1 + 1=m.gen s1 + 1:=by rw [hs.gn]
  rcases flat_src hsrc hall with ⟨rfl,A2,c,hey⟩ | ⟨hne,b,q,c,news,hey,hl,hcell,h1,hrel⟩
  ·refine hrun _ κ.w (by rw [hyx',hey];exact run_app_none κ.w hu hit _ A2 _ _ c (by omega)) ?_
   obtain ⟨q1,q2⟩:=hs1.add (BelowD.refl _ _) s1 (.rows (T e).size (es ++ []) false) ⟨some b0,cap,(T e).size,n⟩ (fun b hb=> by injection hb with hb;subst hb;exact hfree) rfl
    (fun hle=> ⟨by simp [hlen'],fun e' he'=> e2 e' (by simpa using he'),Or.inr ⟨b0,tt,cur,rfl,rfl,hh,hlc,hcm,hcs,fun i j e' x' h1 h2=> let ⟨u,h3,h4⟩:=hra i j e' x' (by simpa using h1) h2;⟨u,h3,hle.relD h4⟩⟩⟩)
   refine ⟨κ.put s1 ⟨some b0,cap,(T e).size,n⟩ κ.w,rfl,q1,q2,_,rfl,?_⟩
   have:=hv (κ.put s1 ⟨some b0,cap,(T e).size,n⟩ κ.w) b0 cap (by rw [←hgn,Cx.put_gn];exact Nat.le_refl _) (by rw [←hgn,Cx.put_new];rfl)
   simpa using this
  ·have hlen:0 < xs.length:=List.length_pos_iff.2 hne
   by_cases hroom:n + xs.length≤cap
   ·have hfit:n * it.size + news.length≤cur.size:=by
     rw [hl,hcs,hsz,←Nat.add_mul]
     exact Nat.mul_le_mul_right _ hroom
    refine hrun _ _ (by rw [hyx',hey];exact run_app_room κ.w hu hit hh (by rw [hsz];exact hl) hcell h1 hroom hfit) ?_
    rw [hsz] at hfit ⊢
    obtain ⟨u1,u2⟩:=hs1.upd (w':=κ.w.setRow b0 (over cur.toList (n * (T e).size) news).toArray) hfree (Nat.le_refl _) rfl rfl rfl (setRow_size _ _ _) (fun k hk=> setRow_other _ _ _ _ hk)
    have hfree':Free w0 m1 {κ with w:=κ.w.setRow b0 (over cur.toList (n * (T e).size) news).toArray} b0:=⟨hfree.1,by show _ < (κ.w.setRow _ _).heap.size;rw [setRow_size];exact hfree.2.1,hfree.2.2.1,hfree.2.2.2⟩
    obtain ⟨q1,q2⟩:=u1.add (BelowD.refl _ _) s1 (.rows (T e).size (es ++ xs) false) ⟨some b0,cap,(T e).size,n + xs.length⟩ (fun b hb=> by injection hb with hb;subst hb;exact hfree') rfl
     (fun hle=> ⟨by simp [hlen'],fun e' he'=> by
       rcases List.mem_append.1 he' with h | h
       ·exact e2 e' h
       ·exact hall e' h,
      Or.inr ⟨b0,tt,_,rfl,rfl,setRow_heap _ _ cur _ tt _ hh,hroom,hcm,by
        rw [List.size_toArray,over_length _ _ _ (by simpa using hfit)]
        simpa using hcs,
       app_rows (olds:=cur.toList.take (n * (T e).size)) (news:=news) (rest:=cur.toList.drop (n * (T e).size + news.length)) (by simp;rw [hlen'];omega) (by simp [over])
        (fun i j e' x' h1 h2=> by
         obtain ⟨u,h3,h4⟩:=hra i j e' x' h1 h2
         refine ⟨u,?_,(u2.trans hle).relD h4⟩
         have hi1:i < es.length:=(List.getElem?_eq_some_iff.1 h1).1
         have hj1:j < e'.length:=(List.getElem?_eq_some_iff.1 h2).1
         rw [e2 e' (List.mem_of_getElem? h1)] at hj1
         have:(i + 1) * (T e).size≤n * (T e).size:=Nat.mul_le_mul_right _ (by omega)
         rw [Nat.add_mul] at this
         rw [List.getElem?_take_of_lt (by omega)]
         simpa using h3)
        (fun i j e' x' h1 h2=> let ⟨u,h3,h4⟩:=hrel i j e' x' h1 h2;⟨u,h3,(u2.trans hle).relD h4⟩)⟩⟩)
    refine ⟨_,rfl,q1,u2.trans q2,_,rfl,?_⟩
    exact hv (Cx.put {κ with w:=κ.w.setRow b0 (over cur.toList (n * (T e).size) news).toArray} s1 ⟨some b0,cap,(T e).size,n + xs.length⟩ (κ.w.setRow b0 (over cur.toList (n * (T e).size) news).toArray)) b0 cap (by rw [←hgn,Cx.put_gn {κ with w:=_}];exact Nat.le_refl _) (by rw [←hgn];exact Cx.put_new {κ with w:=_} _ _ _)
   ·have hlo:(cur.toList.take (n * (T e).size)).length=n * (T e).size:=by
     have:n * (T e).size≤cap * (T e).size:=Nat.mul_le_mul_right _ (by omega)
     simp
     omega
    have hold:∀b,some (⟨b0,0,none⟩:Addr)=some b→∀(j:Nat) (u:Value),(cur.toList.take (n * (T e).size))[j]? =some u→κ.w.cell? (b.add j)=some u:=fun b hb j u hu=> by
     injection hb with hb
     subst hb
     rw [List.getElem?_take] at hu
     split at hu
     ·rw [add_eq,Nat.zero_add,cell_of_row _ _ _ cur tt (0,0) hh]
      simpa using hu
     ·cases hu
    have hro:∀(i j:Nat) (e':List D) (x':D),es[i]? =some e'→e'[j]? =some x'→∃u,(cur.toList.take (n * (T e).size))[i * (T e).size + j]? =some u∧RelD κ.S κ.w x' u:=fun i j e' x' h1 h2=> by
     obtain ⟨u,h3,h4⟩:=hra i j e' x' h1 h2
     refine ⟨u,?_,h4⟩
     have hi1:i < es.length:=(List.getElem?_eq_some_iff.1 h1).1
     have hj1:j < e'.length:=(List.getElem?_eq_some_iff.1 h2).1
     rw [e2 e' (List.mem_of_getElem? h1)] at hj1
     have:(i + 1) * (T e).size≤n * (T e).size:=Nat.mul_le_mul_right _ (by omega)
     rw [Nat.add_mul] at this
     rw [List.getElem?_take_of_lt (by omega)]
     simpa using h3
    have:=run_app_grow (ty:=o.type) κ.w hu hit hz (base:=some ⟨b0,0,none⟩) (n:=n) (cap:=cap) (olds:=cur.toList.take (n * (T e).size)) (by rw [hsz];exact hlo) (fun h=> by cases h) hold (ad:=⟨b,q,none⟩) (k:=xs.length) (c:=c) (news:=news) (by rw [hsz];exact hl) hcell (by omega) hlen (by rw [hby];exact hmul _ hbytes) (by omega)
    rw [←hyx',←hey] at this
    refine hrun _ _ this ?_
    generalize hgc:grownCap κ.w (n + xs.length) cap e=gc at *
    have hge:n + xs.length≤gc:=by rw [←hgc];exact grownCap_ge _ _ _ _
    have hgm:gc≤maxLen:=by rw [←hgc];exact grownCap_le_maxLen _ _ _ _ (by simp only [maxLen];omega)
    have hbel:BelowD w0.dr κ.w.heap.size κ.w (κ.w.drew.alloc (.cells ((cur.toList.take (n * (T e).size)).toArray ++ news.toArray ++ Builtin.zeroCells (T e).zero.cells (gc - (n + xs.length))) e)):=((BelowD.refl κ.w.heap.size κ.w).drew).alloc (Nat.le_refl _) _
    obtain ⟨q1,q2⟩:=hs1.add hbel s1 (.rows (T e).size (es ++ xs) false) ⟨some κ.w.heap.size,gc,(T e).size,n + xs.length⟩ (fun b hb=> by injection hb with hb;subst hb;exact hs1.fresh (Nat.le_refl _) (by simp)) rfl
     (fun hle=> ⟨by simp [hlen'],fun e' he'=> by
       rcases List.mem_append.1 he' with h | h
       ·exact e2 e' h
       ·exact hall e' h,
      Or.inr ⟨κ.w.heap.size,e,_,rfl,rfl,heap_alloc_new κ.w.drew _,hge,hgm,by
        simp only [Array.size_append,List.size_toArray,zsz,hlo,hl,←Nat.add_mul]
        congr 1
        omega,
       app_rows (rest:=(Builtin.zeroCells (T e).zero.cells (gc - (n + xs.length))).toList) (by rw [hlen'];exact hlo) (by simp) (fun i j e' x' h1 h2=> let ⟨u,h3,h4⟩:=hro i j e' x' h1 h2;⟨u,h3,hle.relD h4⟩) (fun i j e' x' h1 h2=> let ⟨u,h3,h4⟩:=hrel i j e' x' h1 h2;⟨u,h3,hle.relD h4⟩)⟩⟩)
    refine ⟨_,rfl,q1,q2,_,rfl,?_⟩
    exact hv (κ.put s1 ⟨some κ.w.heap.size,gc,(T e).size,n + xs.length⟩ (κ.w.drew.alloc (.cells ((cur.toList.take (n * (T e).size)).toArray ++ news.toArray ++ Builtin.zeroCells (T e).zero.cells (gc - (n + xs.length))) e))) κ.w.heap.size gc (by rw [←hgn,Cx.put_gn];exact Nat.le_refl _) (by rw [←hgn,Cx.put_new])
 have none_:∀(m1:Mem) (s1:Nat) (A':Option Addr) (xs:List (List D)),Sim w0 A m1 κ→Src κ xs (a.eval y)→a.eval x= .slice A' 0 0→(∀c∈xs,c.length=(T e).size)→xs.length≤1000000→
   (∀κ' A c b,m.gen s1 + 1≤κ'.gn s1→(xs= []→κ'.φ s1 (m.gen s1 + 1)=⟨none,0,0,0⟩)→(xs≠ []→A=some ⟨b,0,none⟩∧κ'.φ s1 (m.gen s1 + 1)=⟨some b,c,(T e).size,xs.length⟩)→(xs= []→c=0)→Rel κ' v (.slice A xs.length c))→m1.gen=m.gen→m'=m1.add s1 (.rows (T e).size xs false)→o.wp P a κ.w (fun a' w'=> After w0 A κ o v m' a a' w') Q:=by
  intro m1 s1 A' xs hs1 hsrc hyx hall hbytes hv hgen hm'
  subst hm'
  have hgn:κ.gn s1 + 1=m.gen s1 + 1:=by rw [hs.gn]
  rcases flat_src hsrc hall with ⟨rfl,A2,c,hey⟩ | ⟨hne,b,q,c,news,hey,hl,hcell,h1,hrel⟩
  ·refine hrun (.slice A' 0 0) κ.w (by rw [hyx,hey];exact run_app_none κ.w hu hit A' A2 0 0 c (Nat.le_refl _)) ?_
   obtain ⟨q1,q2⟩:=hs1.add (BelowD.refl _ _) s1 (.rows (T e).size [] false) ⟨none,0,0,0⟩ (fun b hb=> by cases hb) rfl (fun _=> ⟨rfl,fun e he=> by simp at he,Or.inl ⟨rfl,rfl⟩⟩)
   refine ⟨κ.put s1 ⟨none,0,0,0⟩ κ.w,rfl,q1,q2,_,rfl,?_⟩
   exact hv (κ.put s1 ⟨none,0,0,0⟩ κ.w) A' 0 0 (by rw [←hgn,Cx.put_gn];exact Nat.le_refl _) (fun _=> by rw [←hgn,Cx.put_new]) (fun h=> absurd rfl h) (fun _=> rfl)
  ·have hlen:0 < xs.length:=List.length_pos_iff.2 hne
   have:=run_app_grow (ty:=o.type) κ.w hu hit hz (base:=A') (n:=0) (cap:=0) (olds:= []) (by simp) (fun _=> ⟨rfl,rfl⟩) (fun b hb j u hu=> by simp at hu) (ad:=⟨b,q,none⟩) (k:=xs.length) (c:=c) (news:=news) (by rw [hsz];exact hl) hcell (by omega) hlen (by rw [hby];exact hmul _ (by omega)) (by omega)
   rw [←hyx,←hey] at this
   refine hrun _ _ this ?_
   generalize hgc:grownCap κ.w (0 + xs.length) 0 e=gc at *
   have hge:0 + xs.length≤gc:=by rw [←hgc];exact grownCap_ge _ _ _ _
   have hgm:gc≤maxLen:=by rw [←hgc];exact grownCap_le_maxLen _ _ _ _ (by simp only [maxLen];omega)
   have hbel:BelowD w0.dr κ.w.heap.size κ.w (κ.w.drew.alloc (.cells (([]:List Value).toArray ++ news.toArray ++ Builtin.zeroCells (T e).zero.cells (gc - (0 + xs.length))) e)):=((BelowD.refl κ.w.heap.size κ.w).drew).alloc (Nat.le_refl _) _
   obtain ⟨q1,q2⟩:=hs1.add hbel s1 (.rows (T e).size ([] ++ xs) false) ⟨some κ.w.heap.size,gc,(T e).size,xs.length⟩ (fun b hb=> by injection hb with hb;subst hb;exact hs1.fresh (Nat.le_refl _) (by simp)) rfl
    (fun hle=> ⟨by simp,fun e' he'=> hall e' (by simpa using he'),
     Or.inr ⟨κ.w.heap.size,e,_,rfl,rfl,heap_alloc_new κ.w.drew _,by simpa using hge,hgm,by
       simp only [Array.size_append,List.size_toArray,zsz,hl,List.length_nil,Nat.zero_add] at hge ⊢
       rw [←Nat.add_mul]
       congr 1
       omega,
      app_rows (es:= []) (olds:= []) (news:=news) (rest:=(Builtin.zeroCells (T e).zero.cells (gc - (0 + xs.length))).toList) (by simp) (by simp) (fun i j e' x' h1 h2=> by simp at h1) (fun i j e' x' h1 h2=> let ⟨u,h3,h4⟩:=hrel i j e' x' h1 h2;⟨u,h3,hle.relD h4⟩)⟩⟩)
   refine ⟨_,rfl,q1,q2,_,rfl,?_⟩
   have:=hv (κ.put s1 ⟨some κ.w.heap.size,gc,(T e).size,xs.length⟩ (κ.w.drew.alloc (.cells (([]:List Value).toArray ++ news.toArray ++ Builtin.zeroCells (T e).zero.cells (gc - (0 + xs.length))) e))) (some ⟨κ.w.heap.size,0,none⟩) gc κ.w.heap.size (by rw [←hgn,Cx.put_gn];exact Nat.le_refl _) (fun h=> absurd h hne) (fun _=> ⟨rfl,by rw [←hgn,Cx.put_new]⟩) (fun h=> absurd h hne)
   simpa using this
 rcases h with ⟨hx,h⟩ | ⟨s1,g,n,hx,h⟩ | ⟨s1,g,n,hx,h⟩
 ·obtain ⟨xs,hsrc,h⟩:=elemsOf_runs hs (ev_rel he hy) h
  obtain ⟨⟨hall,hbytes⟩,h⟩:=chk_inv h
  cases h with
  | new h=>
   obtain ⟨rfl,rfl⟩:=ret_inv h
   have hr:=ev_rel he hx
   generalize hyx:a.eval x=yx at hr
   cases hr with
   | nl A'=>
    rcases flat_src hsrc hall with ⟨rfl,A2,c,hey⟩ | ⟨hne,b,q,c,news,hey,hl,hcell,h1,hrel⟩
    ·refine hrun (.slice A' 0 0) κ.w (by rw [hyx,hey];exact run_app_none κ.w hu hit A' A2 0 0 c (Nat.le_refl _)) ?_
     obtain ⟨q1,q2⟩:=hs.add (BelowD.refl _ _) s (.rows (T e).size [] false) ⟨none,0,0,0⟩ (fun b hb=> by cases hb) rfl (fun _=> ⟨rfl,fun e he=> by simp at he,Or.inl ⟨rfl,rfl⟩⟩)
     refine ⟨κ.put s ⟨none,0,0,0⟩ κ.w,rfl,q1,q2,_,rfl,?_⟩
     rw [←hs.gn]
     exact .row0 A' (by rw [Cx.put_gn];exact Nat.le_refl _) (by rw [Cx.put_new]) (by rw [Cx.put_new])
    ·have hlen:0 < xs.length:=List.length_pos_iff.2 hne
     exact grow m s [] xs A' 0 [] news b q c hs hyx hey (by simp) (fun _=> ⟨rfl,rfl⟩) (fun b hb j u hu=> by simp at hu) hl hcell (by simp;omega) hlen (hmul _ (by simpa using hbytes)) (by simp;omega) (fun e he=> by simp at he) hall (fun i j e' x' h=> by simp at h) hrel (by simp) (by simp)
 ·obtain ⟨xs,hsrc,h⟩:=elemsOf_runs hs (ev_rel he hy) h
  obtain ⟨⟨hall,hbytes⟩,h⟩:=chk_inv h
  cases h with
  | app hi h=>
   rename_i es
   obtain ⟨rfl,rfl⟩:=ret_inv h
   have hr:=ev_rel he hx
   generalize hyx:a.eval x=yx at hr
   obtain ⟨e1,e2,h3⟩:=hs.ok s1 g _ hi
   have hs1:=hs.drop s1 g
   cases hr with
   | row0 A' hg hb hlz=>
    have hes:es= []:=List.eq_nil_of_length_eq_zero (by omega)
    subst hes
    rcases flat_src hsrc hall with ⟨rfl,A2,c,hey⟩ | ⟨hne,b,q,c,news,hey,hl,hcell,h1,hrel⟩
    ·refine hrun (.slice A' 0 0) κ.w (by rw [hyx,hey];exact run_app_none κ.w hu hit A' A2 0 0 c (Nat.le_refl _)) ?_
     obtain ⟨q1,q2⟩:=hs1.add (BelowD.refl _ _) s1 (.rows (T e).size [] false) ⟨none,0,0,0⟩ (fun b hb=> by cases hb) rfl (fun _=> ⟨rfl,fun e he=> by simp at he,Or.inl ⟨rfl,rfl⟩⟩)
     refine ⟨κ.put s1 ⟨none,0,0,0⟩ κ.w,rfl,q1,q2,_,rfl,?_⟩
     rw [←hs.gn]
     exact .row0 A' (by rw [Cx.put_gn];exact Nat.le_refl _) (by rw [Cx.put_new]) (by rw [Cx.put_new])
    ·have hlen:0 < xs.length:=List.length_pos_iff.2 hne
     exact grow (m.set s1 g none) s1 [] xs A' 0 [] news b q c hs1 hyx hey (by simp) (fun _=> ⟨rfl,rfl⟩) (fun b hb j u hu=> by simp at hu) hl hcell (by simp;omega) hlen (hmul _ (by simpa using hbytes)) (by simp;omega) (fun e he=> by simp at he) hall (fun i j e' x' h=> by simp at h) hrel (by simp [Mem.set]) rfl
   | @row _ _ b0 hg hb=>
    rcases h3 with ⟨h4,_⟩ | ⟨b',tt,cur,hb',hzz,hh,hlc,hcm,hcs,hra⟩
    ·rw [h4] at hb;cases hb
    ·rw [hb] at hb'
     injection hb' with hb'
     subst hb'
     have hfree:Free w0 (m.set s1 g none) κ b0:=by
      refine ⟨(hs.own s1 g _ b0 hi hb).1,(hs.own s1 g _ b0 hi hb).2,hs.notS s1 g _ b0 hi hb rfl,fun x' y' i' hi' eb=> ?_⟩
      rw [setAt] at hi'
      split at hi'
      ·cases hi'
      ·rename_i hne
       have:=hs.sep s1 g _ x' y' i' b0 hi hi' hb eb rfl
       exact hne ⟨this.1.symm,this.2.symm⟩
     have hlen':es.length=(κ.φ s1 g).len:=e1
     have hyx':a.eval x= .slice (some ⟨b0,0,none⟩) es.length (κ.φ s1 g).cap:=by rw [hyx,hlen']
     rcases flat_src hsrc hall with ⟨rfl,A2,c,hey⟩ | ⟨hne,b,q,c,news,hey,hl,hcell,h1,hrel⟩
     ·refine hrun _ κ.w (by rw [hyx',hey];exact run_app_none κ.w hu hit _ A2 _ _ c (by omega)) ?_
      obtain ⟨q1,q2⟩:=hs1.add (BelowD.refl _ _) s1 (.rows (T e).size (es ++ []) false) ⟨some b0,(κ.φ s1 g).cap,(T e).size,es.length⟩ (fun b hb=> by injection hb with hb;subst hb;exact hfree) rfl
       (fun hle=> ⟨by simp,fun e' he'=> e2 e' (by simpa using he'),Or.inr ⟨b0,tt,cur,rfl,rfl,hh,by rw [hlen'];exact hlc,hcm,hcs,fun i j e' x' h1 h2=> let ⟨u,h3,h4⟩:=hra i j e' x' (by simpa using h1) h2;⟨u,h3,hle.relD h4⟩⟩⟩)
      refine ⟨κ.put s1 ⟨some b0,(κ.φ s1 g).cap,(T e).size,es.length⟩ κ.w,rfl,q1,q2,_,rfl,?_⟩
      show Rel _ (.row s1 (m.gen s1 + 1) _) _
      rw [←hs.gn]
      have:=Rel.row (κ:=κ.put s1 ⟨some b0,(κ.φ s1 g).cap,(T e).size,es.length⟩ κ.w) (s:=s1) (g:=κ.gn s1 + 1) (b:=b0) (by rw [Cx.put_gn];exact Nat.le_refl _) (by rw [Cx.put_new])
      rw [Cx.put_new] at this
      simpa [hlen'] using this
     ·have hlen:0 < xs.length:=List.length_pos_iff.2 hne
      by_cases hroom:es.length + xs.length≤(κ.φ s1 g).cap
      ·have hfit:es.length * it.size + news.length≤cur.size:=by
        rw [hl,hcs,hsz,←Nat.add_mul]
        exact Nat.mul_le_mul_right _ hroom
       refine hrun _ _ (by rw [hyx',hey];exact run_app_room κ.w hu hit hh (by rw [hsz];exact hl) hcell h1 hroom hfit) ?_
       rw [hsz] at hfit ⊢
       obtain ⟨u1,u2⟩:=hs1.upd (w':=κ.w.setRow b0 (over cur.toList (es.length * (T e).size) news).toArray) hfree (Nat.le_refl _) rfl rfl rfl (setRow_size _ _ _) (fun k hk=> setRow_other _ _ _ _ hk)
       have hfree':Free w0 (m.set s1 g none) {κ with w:=κ.w.setRow b0 (over cur.toList (es.length * (T e).size) news).toArray} b0:=⟨hfree.1,by show _ < (κ.w.setRow _ _).heap.size;rw [setRow_size];exact hfree.2.1,hfree.2.2.1,hfree.2.2.2⟩
       obtain ⟨q1,q2⟩:=u1.add (BelowD.refl _ _) s1 (.rows (T e).size (es ++ xs) false) ⟨some b0,(κ.φ s1 g).cap,(T e).size,es.length + xs.length⟩ (fun b hb=> by injection hb with hb;subst hb;exact hfree') rfl
        (fun hle=> ⟨by simp,fun e' he'=> by
          rcases List.mem_append.1 he' with h | h
          ·exact e2 e' h
          ·exact hall e' h,
         Or.inr ⟨b0,tt,_,rfl,rfl,setRow_heap _ _ cur _ tt _ hh,hroom,hcm,by
           rw [List.size_toArray,over_length _ _ _ (by simpa using hfit)]
           simpa using hcs,
          app_rows (olds:=cur.toList.take (es.length * (T e).size)) (news:=news) (rest:=cur.toList.drop (es.length * (T e).size + news.length)) (by simp;omega) (by simp [over])
           (fun i j e' x' h1 h2=> by
            obtain ⟨u,h3,h4⟩:=hra i j e' x' h1 h2
            refine ⟨u,?_,(u2.trans hle).relD h4⟩
            have hi1:i < es.length:=(List.getElem?_eq_some_iff.1 h1).1
            have hj1:j < e'.length:=(List.getElem?_eq_some_iff.1 h2).1
            rw [e2 e' (List.mem_of_getElem? h1)] at hj1
            have:(i + 1) * (T e).size≤es.length * (T e).size:=Nat.mul_le_mul_right _ (by omega)
            rw [Nat.add_mul] at this
            rw [List.getElem?_take_of_lt (by omega)]
            simpa using h3)
           (fun i j e' x' h1 h2=> let ⟨u,h3,h4⟩:=hrel i j e' x' h1 h2;⟨u,h3,(u2.trans hle).relD h4⟩)⟩⟩)
       refine ⟨_,rfl,q1,u2.trans q2,_,rfl,?_⟩
       show Rel _ (.row s1 (m.gen s1 + 1) _) _
       rw [←hs.gn]
       have:=Rel.row (κ:=Cx.put {κ with w:=κ.w.setRow b0 (over cur.toList (es.length * (T e).size) news).toArray} s1 ⟨some b0,(κ.φ s1 g).cap,(T e).size,es.length + xs.length⟩ (κ.w.setRow b0 (over cur.toList (es.length * (T e).size) news).toArray)) (s:=s1) (g:=κ.gn s1 + 1) (b:=b0) (by rw [Cx.put_gn {κ with w:=_}];exact Nat.le_refl _) (by rw [Cx.put_new {κ with w:=_}])
       rw [Cx.put_new {κ with w:=_}] at this
       rw [←hlen']
       exact this
      ·refine grow (m.set s1 g none) s1 es xs _ _ (cur.toList.take (es.length * (T e).size)) news b q c hs1 hyx' hey ?_ (fun h=> by cases h) (fun b hb j u hu=> ?_) hl hcell (by omega) hlen (hmul _ (by omega)) (by omega) e2 hall (fun i j e' x' h1 h2=> ?_) hrel (by rw [hlen'];rfl) rfl
       ·have:es.length * (T e).size≤(κ.φ s1 g).cap * (T e).size:=Nat.mul_le_mul_right _ (by omega)
        simp
        omega
       ·injection hb with hb
        subst hb
        rw [List.getElem?_take] at hu
        split at hu
        ·rw [add_eq,Nat.zero_add,cell_of_row _ _ _ cur tt (0,0) hh]
         simpa using hu
        ·cases hu
       ·obtain ⟨u,h3,h4⟩:=hra i j e' x' h1 h2
        refine ⟨u,?_,h4⟩
        have hi1:i < es.length:=(List.getElem?_eq_some_iff.1 h1).1
        have hj1:j < e'.length:=(List.getElem?_eq_some_iff.1 h2).1
        rw [e2 e' (List.mem_of_getElem? h1)] at hj1
        have:(i + 1) * (T e).size≤es.length * (T e).size:=Nat.mul_le_mul_right _ (by omega)
        rw [Nat.add_mul] at this
        rw [List.getElem?_take_of_lt (by omega)]
        simpa using h3
 ·obtain ⟨xs,hsrc,h⟩:=elemsOf_runs hs (ev_rel he hy) h
  obtain ⟨⟨hall,hbytes⟩,h⟩:=chk_inv h
  cases h with
  | rww hi h=>
   rename_i sz es
   cases h with
   | wr h=>
    generalize hm2:m.set s1 g (some (.rows sz (es.take n) false))=m2 at h
    cases h with
    | app hi2 h=>
     rename_i es2
     obtain ⟨rfl,rfl⟩:=ret_inv h
     subst hm2
     rw [setAt,if_pos ⟨rfl,rfl⟩] at hi2
     injection hi2 with hi2
     injection hi2 with hsz2 hes2 _
     subst hsz2 hes2
     have hmm:(m.set s1 g (some (.rows (T e).size (es.take n) false))).set s1 g none=m.set s1 g none:=by
      have:∀(x y:Nat),((m.set s1 g (some (.rows (T e).size (es.take n) false))).set s1 g none).at_ x y=(m.set s1 g none).at_ x y:=fun x y=> by
       rw [setAt,setAt,setAt]
       split <;> rfl
      show Mem.mk _ _=Mem.mk _ _
      congr 1
      funext x y
      exact this x y
     have hr:=ev_rel he hx
     generalize hyx:a.eval x=yx at hr
     obtain ⟨e1,e2,h3⟩:=hs.ok s1 g _ hi
     have hs1:=hs.drop s1 g
     cases hr with
     | sub0 A' hg hb hlz=>
      have hes:es= []:=List.eq_nil_of_length_eq_zero (by omega)
      subst hes
      refine none_ (m.set s1 g none) s1 A' xs hs1 hsrc hyx hall (by omega) ?_ rfl (by rw [hmm];simp)
      intro κ' A c b k1 k2 k3 k4
      show Rel κ' (.sub s1 (m.gen s1 + 1) 0 (0 + xs.length)) _
      rw [Nat.zero_add]
      by_cases hxs:xs= []
      ·subst hxs
       rw [k4 rfl]
       have:=k2 rfl
       exact .sub0 A k1 (by rw [this]) (by rw [this])
      ·obtain ⟨k5,k6⟩:=k3 hxs
       have:=Rel.sub (κ:=κ') (s:=s1) (g:=m.gen s1 + 1) (o:=0) (n:=xs.length) (b:=b) A k1 (by rw [k6]) (Or.inr (by rw [k5,Nat.zero_mul])) (by rw [k6];exact Nat.le_of_eq (Nat.zero_add _))
       rw [k6] at this
       exact this
     | @sub _ _ _ _ b0 A' hg hb hA hn=>
      rcases h3 with ⟨h4,_⟩ | ⟨b',tt,cur,hb',hzz,hh,hlc,hcm,hcs,hra⟩
      ·rw [h4] at hb;cases hb
      ·rw [hb] at hb'
       injection hb' with hb'
       subst hb'
       rw [Nat.zero_add] at hn
       have hfree:Free w0 (m.set s1 g none) κ b0:=by
        refine ⟨(hs.own s1 g _ b0 hi hb).1,(hs.own s1 g _ b0 hi hb).2,hs.notS s1 g _ b0 hi hb rfl,fun x' y' i' hi' eb=> ?_⟩
        rw [setAt] at hi'
        split at hi'
        ·cases hi'
        ·rename_i hne
         have:=hs.sep s1 g _ x' y' i' b0 hi hi' hb eb rfl
         exact hne ⟨this.1.symm,this.2.symm⟩
       have hlen':es.length=(κ.φ s1 g).len:=e1
       have htk:(es.take n).length=n:=by rw [List.length_take];omega
       have hrel:∀κ' b c,m.gen s1 + 1≤κ'.gn s1→κ'.φ s1 (m.gen s1 + 1)=⟨some b,c,(T e).size,n + xs.length⟩→Rel κ' (.sub s1 (m.gen s1 + 1) 0 (n + xs.length)) (.slice (some ⟨b,0,none⟩) (n + xs.length) c):=by
        intro κ' b c k1 k6
        have:=Rel.sub (κ:=κ') (s:=s1) (g:=m.gen s1 + 1) (o:=0) (n:=n + xs.length) (b:=b) (some ⟨b,0,none⟩) k1 (by rw [k6]) (Or.inr (by rw [Nat.zero_mul])) (by rw [k6];exact Nat.le_of_eq (Nat.zero_add _))
        rw [k6] at this
        exact this
       rcases hA with ⟨hn0,hc0⟩ | hA
       ·subst hn0
        have hcap:(κ.φ s1 g).cap=0:=by omega
        have hes:es= []:=List.eq_nil_of_length_eq_zero (by omega)
        subst hes
        refine none_ (m.set s1 g none) s1 A' xs hs1 hsrc (by rw [hyx,hc0]) hall (by omega) ?_ rfl (by rw [hmm];simp)
        intro κ' A c b k1 k2 k3 k4
        show Rel κ' (.sub s1 (m.gen s1 + 1) 0 (0 + xs.length)) _
        rw [Nat.zero_add]
        by_cases hxs:xs= []
        ·subst hxs
         rw [k4 rfl]
         have:=k2 rfl
         exact .sub0 A k1 (by rw [this]) (by rw [this])
        ·obtain ⟨k5,k6⟩:=k3 hxs
         have:=hrel κ' b c k1 (by rw [k6,Nat.zero_add])
         rw [Nat.zero_add] at this
         rw [k5]
         exact this
       ·refine onto (m.set s1 g none) s1 b0 (κ.φ s1 g).cap n tt cur (es.take n) xs hs1 hfree hsrc (by rw [hyx,hA,Nat.zero_mul,Nat.sub_zero]) htk (fun e' he'=> e2 e' (List.mem_of_mem_take he')) (by omega) hcm hh hcs ?_ hall hbytes hrel rfl (by rw [hmm])
        intro i j e' x' h1 h2
        rw [List.getElem?_take] at h1
        split at h1
        ·exact hra i j e' x' h1 h2
        ·cases h1
theorem buildEs_runs (he:EnvOk κ env a.tmps) (sz n:Nat):∀(parts:List (Nat×Operand)) (i:Nat) (k:List (List D)→Step) (m:Mem) (κ0:Cx) (v:AV) (m':Mem),Sim w0 A m κ0→κ.Le κ0→κ0.w=κ.w→(buildEs sz n i (parts.map fun p=> (p.1,rhoOf env p.2)) k).Runs F m v m'→
  ∃m1 κ1 es xs,Sim w0 A m1 κ1∧κ0.Le κ1∧κ1.w=κ.w∧(k es).Runs F m1 v m'∧i + parts.length=n∧es.length=parts.length∧(∀e∈es,e.length=sz)∧xs.length=parts.length * sz∧
   (∀(i j:Nat) (e:List D) (x:D),es[i]? =some e→e[j]? =some x→∃u,xs[i * sz + j]? =some u∧RelD κ1.S κ1.w x u)∧
   ∀cells:Array Value,cells.size=n * sz→Instr.fill (fun i=> some (i * sz,sz)) cells (parts.map fun p=> (p.1,a.eval p.2))=some (cells.toList.take (i * sz) ++ xs).toArray
 | [],i,k,m,κ0,v,m',hs,hle,hw,h=> by
  simp only [List.map_nil,buildEs] at h
  cases hb:Nat.beq i n
  ·rw [hb] at h;cases h
  ·rw [hb] at h
   have hb:=Nat.eq_of_beq_eq_true hb
   subst hb
   refine ⟨m,κ0,[],[],hs,.refl _,hw,h,by simp,rfl,by simp,by simp,by simp,fun cells hc=> ?_⟩
   simp only [List.map_nil,Instr.fill,List.append_nil]
   rw [List.take_of_length_le (by simp [hc])]
 | (j,x)::parts,i,k,m,κ0,v,m',hs,hle,hw,h=> by
  simp only [List.map_cons] at h
  cases hx:rhoOf env x with
  | none=> rw [hx] at h;cases h
  | some c=>
   rw [hx] at h
   simp only [buildEs] at h
   cases hb:(Nat.beq i j && Nat.beq (cellsOf c).length sz && (cellsOf c).all isOne)
   ·rw [hb] at h;cases h
   ·rw [hb] at h
    simp only [Bool.and_eq_true] at hb
    obtain ⟨⟨h1,h2⟩,h3⟩:=hb
    have h1:=Nat.eq_of_beq_eq_true h1
    have h2:=Nat.eq_of_beq_eq_true h2
    subst h1
    obtain ⟨hcs,hone⟩:=(ev_rel he hx).cells h3
    obtain ⟨m1,κ1,ds,g1,g2,g3,g4,g5⟩:=dataList_runs (cellsOf c) _ m κ0 _ v m' hs (hcs.mono hle) h
    obtain ⟨m2,κ2,es,xs,q1,q2,q3,q4,q5,q6,q7,q8,q9,q10⟩:=buildEs_runs he sz n parts (i + 1) _ m1 κ1 v m' g1 (hle.trans g2) (g3.trans hw) g5
    have hsz:(a.eval x).cells.size=sz:=by have:=hcs.1;simp only [Array.length_toList] at this;omega
    have hds:ds.length=sz:=by rw [g4.1];simpa using hsz
    refine ⟨m2,κ2,ds::es,(a.eval x).cells.toList ++ xs,q1,g2.trans q2,q3,q4,by simp;omega,by simp [q6],fun e he'=> ?_,?_,fun i' j' e y hi' hj'=> ?_,fun cells hc=> ?_⟩
    ·rcases List.mem_cons.1 he' with rfl | he'
     ·exact hds
     ·exact q7 e he'
    ·simp [q8,hsz,Nat.add_mul]
     omega
    ·cases i' with
     | zero=>
      simp at hi'
      subst hi'
      have hj2:j' < sz:=by rw [←hds];exact (List.getElem?_eq_some_iff.1 hj').1
      have hlt:j' < (a.eval x).cells.toList.length:=by simp;omega
      refine ⟨(a.eval x).cells.toList[j'],?_,q2.relD (g4.2 j' y _ hj' (List.getElem?_eq_getElem hlt))⟩
      rw [Nat.zero_mul,Nat.zero_add,List.getElem?_append_left hlt,List.getElem?_eq_getElem hlt]
     | succ i'=>
      obtain ⟨u,hu,hd⟩:=q9 i' j' e y (by simpa using hi') hj'
      refine ⟨u,?_,hd⟩
      rw [List.getElem?_append_right (by simp [hsz,Nat.add_mul];omega)]
      have:(i' + 1) * sz + j' - (a.eval x).cells.toList.length=i' * sz + j':=by simp [hsz,Nat.add_mul];omega
      rw [this]
      exact hu
    ·have hfit:i * sz + sz≤cells.size:=by
      rw [hc]
      have:(i + 1) * sz≤n * sz:=Nat.mul_le_mul_right _ (by omega)
      rw [Nat.add_mul] at this
      omega
     rw [List.map_cons,fill_step _ cells i (a.eval x) _ rfl hsz hfit,q10 _ (by rw [List.size_toArray,over_length _ _ _ (by simp;omega)];simpa using hc)]
     congr 2
     have:(over cells.toList (i * sz) (a.eval x).cells.toList).take ((i + 1) * sz)=cells.toList.take (i * sz) ++ (a.eval x).cells.toList:=by
      unfold over
      rw [List.take_append_of_le_length (by simp [hsz,Nat.add_mul];omega),List.take_of_length_le (by simp [hsz,Nat.add_mul];omega)]
     rw [this,List.append_assoc]
theorem sim_bslice (hT:TOk P T) (hs:Sim w0 A m κ) (he:EnvOk κ env a.tmps) {t e z n s:Nat} {parts:Array (Nat×Operand)} (ho:o.op= .buildSlice t n parts) (hk:(T t).k= .slice e z) (h:(bsliceF (T e) s n (parts.toList.map fun p=> (p.1,rhoOf env p.2))).Runs F m v m'):
  o.wp P a κ.w (fun a' w'=> After w0 A κ o v m' a a' w') Q:=by
 unfold bsliceF at h
 cases hb:((T e).known && Nat.ble (n * (T e).size) 1000000 && Nat.blt 0 (T e).size)
 ·rw [hb] at h;cases h
 ·rw [hb] at h
  simp only [Bool.and_eq_true] at hb
  obtain ⟨⟨hkn,hn⟩,hpos⟩:=hb
  have hn:=Nat.le_of_ble_eq_true hn
  have hpos:0 < (T e).size:=Nat.lt_of_succ_le (Nat.le_of_ble_eq_true hpos)
  have ht:=hT e hkn
  obtain ⟨it,hit,hsz,hby,hz⟩:=ht.info
  obtain ⟨dd,hu,hd,_⟩:=hT.kok hk (by simp)
  have hd:dd=_:=hd
  subst hd
  obtain ⟨m1,κ1,es,xs,q1,q2,q3,q4,q5,q6,q7,q8,q9,q10⟩:=buildEs_runs he (T e).size n parts.toList 0 _ m κ v m' hs (.refl κ) rfl h
  cases q4 with
  | new q4=>
   obtain ⟨rfl,rfl⟩:=ret_inv q4
   have hpl:parts.toList.length=n:=(Nat.zero_add _).symm.trans q5
   have hnl:es.length=n:=q6.trans hpl
   have hrun:(execOp a.eval o).run P κ.w= .ok (.value (.slice (some ⟨κ.w.heap.size,0,none⟩) n n)) (κ.w.alloc (.cells xs.toArray e)):=by
    have hfill:∀(cells:Array Value),cells.size=n * (T e).size→Instr.fill (fun i=> some (i * (T e).size,(T e).size)) cells (parts.map fun p=> (p.1,a.eval p.2)).toList=some xs.toArray:=by
     intro cells hc
     have:=q10 cells hc
     simpa using this
    have hsm:¬(n * (T e).size > 16777216):=by omega
    unfold execOp
    rw [ho]
    by_cases h0:n * (T e).size=0
    ·have:=hfill ((Array.range (n * (T e).size)).map (#[][· % (#[]:Array Value).size]!)) (by simp)
     simp [Instr.buildSlice,run_underlying hu,sizeOf,typeInfo,hit,hsz,h0] at this ⊢
     rw [this]
     rfl
    ·have:=hfill ((Array.range (n * (T e).size)).map ((T e).zero.cells[· % (T e).zero.cells.size]!)) (by simp)
     simp [Instr.buildSlice,run_underlying hu,sizeOf,typeInfo,hit,hsz,h0,hsm,zeroValue,hz] at this ⊢
     rw [this]
     rfl
   refine wp_val hrun ?_
   have hw:κ1.w=κ.w:=q3
   obtain ⟨r1,r2⟩:=q1.add (belowD_alloc κ1.w (.cells xs.toArray e)) s (.rows (T e).size es false) ⟨some κ1.w.heap.size,n,(T e).size,n⟩ (fun b hb=> by injection hb with hb;subst hb;exact q1.fresh (Nat.le_refl _) (by simp)) rfl
    (fun hle=> ⟨hnl,q7,Or.inr ⟨_,e,xs.toArray,rfl,rfl,heap_alloc_new _ _,Nat.le_refl _,by
      have:n≤n * (T e).size:=Nat.le_mul_of_pos_right _ hpos
      simp only [maxLen];omega,by rw [List.size_toArray,q8,hpl],fun i j e' x' h1 h2=> let ⟨u,h3,h4⟩:=q9 i j e' x' h1 h2;⟨u,by simpa using h3,hle.relD h4⟩⟩⟩)
   refine ⟨_,by show κ1.w.alloc _=_;rw [hw],r1,q2.trans r2,_,rfl,?_⟩
   rw [←q1.gn,←hw]
   have:=Rel.row (κ:=κ1.put s ⟨some κ1.w.heap.size,n,(T e).size,n⟩ (κ1.w.alloc (.cells xs.toArray e))) (s:=s) (g:=κ1.gn s + 1) (b:=κ1.w.heap.size) (by rw [Cx.put_gn];exact Nat.le_refl _) (by rw [Cx.put_new])
   rw [Cx.put_new] at this
   exact this
end
end Go.Proofs.YtmgcnoigihdhpaaGreatDoor
namespace Go.Proofs.YtmgcnoigihdhpaaGreatDoor
open Go.RowKit
theorem datasZ_get {κ:Cx}:∀{cs:List AV} {ds:List D} {vs:List Value},datasZ cs=some ds→RelL κ cs vs→ds.length=vs.length∧∀(j:Nat) (x:D) (u:Value),ds[j]? =some x→vs[j]? =some u→RelD κ.S κ.w x u
 | [],ds,vs,h,hr=> by
  injection h with h
  subst h
  rw [hr.nil_inv]
  exact ⟨rfl,fun j x u h=> by simp at h⟩
 | c::cs,ds,vs,h,hr=> by
  obtain ⟨v,vs',rfl,h1,h2⟩:=hr.cons_inv
  have go:∀(y:D) (l:List D),datasZ cs=some l→RelD κ.S κ.w y v→(y::l).length=(v::vs').length∧∀(j:Nat) (x:D) (u:Value),(y::l)[j]? =some x→(v::vs')[j]? =some u→RelD κ.S κ.w x u:=by
   intro y l hl hy
   obtain ⟨q1,q2⟩:=datasZ_get hl h2
   refine ⟨by simp [q1],fun j x u hx hu=> ?_⟩
   cases j with
   | zero=> simp at hx hu;subst hx hu;exact hy
   | succ j=> exact q2 j x u (by simpa using hx) (by simpa using hu)
  cases c with
  | d y=>
   simp only [datasZ] at h
   cases hq:datasZ cs with
   | none=> rw [hq] at h;cases h
   | some l=>
    rw [hq] at h
    injection h with h
    subst h
    cases h1 with
    | d h1=> exact go y l hq h1
  | nl=>
   simp only [datasZ] at h
   cases hq:datasZ cs with
   | none=> rw [hq] at h;cases h
   | some l=>
    rw [hq] at h
    injection h with h
    subst h
    cases h1 with
    | nl A'=> exact go _ l hq (.fz0 _ _ fun _=> rfl)
  | _=> cases h
theorem made_get (z:Array Value) (n q:Nat) (h:q < n):(madeCells z n)[q]? =some (z[q % z.size]!):=by
 simp [madeCells,h]
section
variable {P : Program} {T : Nat → TI} {F : FuncId → List AV → AV → Prop} {w0 : Start} {A : Nat → Prop} {o : Oper} {a : Act} {κ : Cx} {m m' : Mem} {v : AV} {Q : Exit → Act → World → Prop} {env : Nat → Option AV}
theorem sim_makes (hT:TOk P T) (hs:Sim w0 A m κ) (he:EnvOk κ env a.tmps) {t e z s:Nat} {l c:Operand} (ho:o.op= .makeSlice t l c) (hk:(T t).k= .slice e z) (h:(makesF (T e) s (rhoOf env l) (rhoOf env c)).Runs F m v m'):
  o.wp P a κ.w (fun a' w'=> After w0 A κ o v m' a a' w') Q:=by
 unfold makesF at h
 cases hb:((T e).known && Nat.blt 0 (T e).size && Nat.ble (T e).size 16 && Nat.ble (T e).bytes 1000)
 ·rw [hb] at h;cases h
 ·rw [hb] at h
  simp only [Bool.and_eq_true] at hb
  obtain ⟨⟨⟨hkn,hpos⟩,h16⟩,hb1000⟩:=hb
  have hpos:0 < (T e).size:=Nat.lt_of_succ_le (Nat.le_of_ble_eq_true hpos)
  have h16:=Nat.le_of_ble_eq_true h16
  have hb1000:=Nat.le_of_ble_eq_true hb1000
  have ht:=hT e hkn
  obtain ⟨it,hit,hsz,hby,hz⟩:=ht.info
  obtain ⟨dd,hu,hd,_⟩:=hT.kok hk (by simp)
  have hd:dd=_:=hd
  subst hd
  generalize hl:rhoOf env l=la at h
  generalize hc:rhoOf env c=ca at h
  generalize hzd:zeroD (T e)=za at h
  simp only [cond_true] at h
  split at h
  ·rename_i kl n kc c' zd
   obtain ⟨⟨h0,hnc,hcm⟩,h⟩:=chk_inv h
   cases h with
   | new h=>
    obtain ⟨rfl,rfl⟩:=ret_inv h
    have hlv:=(ev_rel he hl).val
    have hcv:=(ev_rel he hc).val
    obtain ⟨cn,rfl⟩:=Int.eq_ofNat_of_zero_le (show 0≤c' by omega)
    obtain ⟨nn,rfl⟩:=Int.eq_ofNat_of_zero_le h0
    have hnc':nn≤cn:=by omega
    have hcm':cn≤1000000:=by omega
    have hcells:cn * it.size≤16777216:=by
     rw [hsz]
     exact Nat.le_trans (Nat.mul_le_mul hcm' h16) (by decide)
    have hbytes:(it.bytes:Int) * (cn:Int)≤281474976710656:=by
     rw [hby]
     have:(T e).bytes * cn≤1000 * 1000000:=Nat.mul_le_mul hb1000 hcm'
     have h2:(((T e).bytes * cn:Nat):Int)≤((1000 * 1000000:Nat):Int):=Int.ofNat_le.2 this
     rw [Int.natCast_mul] at h2
     omega
    have hrun:(execOp a.eval o).run P κ.w= .ok (.value (.slice (some ⟨κ.w.heap.size,0,none⟩) nn cn)) (κ.w.alloc (.cells (madeCells (T e).zero.cells (cn * (T e).size)) e)):=by
     have:=run_makeSlice (P:=P) κ.w t e it (T e).zero hu hit hz kl kc (nn:Int) (cn:Int) h0 hnc (by simpa using hcells) hbytes (by omega)
     unfold execOp
     rw [ho]
     simp only [hlv,hcv,this,Sem.run_bind,Result.andThen_ok,Sem.run_pure,hsz]
     simp
    refine wp_val hrun ?_
    have hzr:=(ofConst_rel κ _ ht.zok).unk
    have hzone:(cellsOf (unk (ofConst (T e).zero))).all isOne=true:=by
     have all:∀(cs:List AV) (ds:List D),datasZ cs=some ds→cs.all isOne=true:=by
      intro cs
      induction cs with
      | nil=> intro _ _;rfl
      | cons c cs ih=>
       intro ds hds
       cases c with
       | d y=>
        simp only [datasZ] at hds
        cases hq:datasZ cs with
        | none=> rw [hq] at hds;cases hds
        | some l=> simp [isOne,ih l hq]
       | nl=>
        simp only [datasZ] at hds
        cases hq:datasZ cs with
        | none=> rw [hq] at hds;cases hds
        | some l=> simp [isOne,ih l hq]
       | _=> cases hds
     exact all _ _ hzd
    obtain ⟨hzc,_⟩:=hzr.cells hzone
    obtain ⟨hzl,hzg⟩:=datasZ_get hzd hzc
    have hzsz:zd.length=(T e).size:=by rw [hzl,Array.length_toList,ht.zsz]
    have hsize:(T e).zero.cells.size=(T e).size:=ht.zsz
    obtain ⟨q1,q2⟩:=hs.add (belowD_alloc κ.w (.cells (madeCells (T e).zero.cells (cn * (T e).size)) e)) s (.rows (T e).size (List.replicate nn zd) false) ⟨some κ.w.heap.size,cn,(T e).size,nn⟩ (fun b hb=> by injection hb with hb;subst hb;exact hs.fresh (Nat.le_refl _) (by simp)) rfl
     (fun hle=> ⟨by simp,fun x hx=> by rw [List.eq_of_mem_replicate hx];exact hzsz,Or.inr ⟨_,e,_,rfl,rfl,heap_alloc_new _ _,hnc',by simp only [maxLen];omega,by rw [size_madeCells],fun i j e' x h1 h2=> by
      have hi:i < nn:=by
       have:=(List.getElem?_eq_some_iff.1 h1).1
       simpa using this
      rw [List.getElem?_replicate,if_pos hi] at h1
      injection h1 with h1
      subst h1
      have hj:j < (T e).size:=by rw [←hzsz];exact (List.getElem?_eq_some_iff.1 h2).1
      have hlt:i * (T e).size + j < cn * (T e).size:=by
       have:(i + 1) * (T e).size≤cn * (T e).size:=Nat.mul_le_mul_right _ (by omega)
       rw [Nat.add_mul] at this
       omega
      have hmod:(i * (T e).size + j) % (T e).size=j:=by rw [Nat.add_comm,Nat.add_mul_mod_self_right,Nat.mod_eq_of_lt hj]
      have hjz:j < (T e).zero.cells.size:=by rw [hsize];exact hj
      refine ⟨(T e).zero.cells[j],?_,hle.relD (hzg j x _ h2 (by simp [hjz]))⟩
      rw [made_get _ _ _ hlt]
      simp only [hsize,hmod]
      rw [getElem!_pos (T e).zero.cells j hjz]⟩⟩)
    refine ⟨_,rfl,q1,q2,_,rfl,?_⟩
    rw [←hs.gn]
    have:=Rel.row (κ:=κ.put s ⟨some κ.w.heap.size,cn,(T e).size,nn⟩ (κ.w.alloc (.cells (madeCells (T e).zero.cells (cn * (T e).size)) e))) (s:=s) (g:=κ.gn s + 1) (b:=κ.w.heap.size) (by rw [Cx.put_gn];exact Nat.le_refl _) (by rw [Cx.put_new])
    rw [Cx.put_new] at this
    simpa using this
  ·cases h
theorem sim_copy (hT:TOk P T) (hs:Sim w0 A m κ) (he:EnvOk κ env a.tmps) {x y:Operand} {t e z:Nat} (ho:o.op= .call {callee:= .builtin .copy,args:= #[x,y],argTypes:= #[t,t]}) (hk:(T t).k= .slice e z) (h:(copyF (T e) (rhoOf env x) (rhoOf env y)).Runs F m v m'):
  o.wp P a κ.w (fun a' w'=> After w0 A κ o v m' a a' w') Q:=by
 unfold copyF at h
 cases hb:((T e).known && Nat.blt 0 (T e).size)
 ·rw [hb] at h;cases h
 ·rw [hb] at h
  simp only [Bool.and_eq_true] at hb
  obtain ⟨hkn,hpos⟩:=hb
  have hpos:0 < (T e).size:=Nat.lt_of_succ_le (Nat.le_of_ble_eq_true hpos)
  have ht:=hT e hkn
  obtain ⟨it,hit,hsz,hby,hz⟩:=ht.info
  obtain ⟨dd,hu,hd,_⟩:=hT.kok hk (by simp)
  have hd:dd=_:=hd
  subst hd
  generalize hx:rhoOf env x=xa at h
  generalize hy:rhoOf env y=ya at h
  simp only [cond_true] at h
  split at h
  ·rename_i s g n d
   obtain ⟨xs,hsrc,h⟩:=elemsOf_runs hs (ev_rel he hy) h
   obtain ⟨hall,h⟩:=chk_inv h
   cases h with
   | rww hi h=>
    rename_i sz es
    dsimp only at h
    cases hbe:Nat.beq sz (T e).size
    ·rw [hbe] at h;cases h
    ·rw [hbe] at h
     have hbe:=Nat.eq_of_beq_eq_true hbe
     subst hbe
     cases h with
     | wr h=>
      obtain ⟨rfl,rfl⟩:=ret_inv h
      have hrun:∀(r:Value) (w':World),(Builtin.copy_ #[t,t] o.type #[a.eval x,a.eval y]).run P κ.w= .ok r w'→After w0 A κ o (I (Nat.min xs.length es.length)) (m.set s g (some (.rows (T e).size (xs.take es.length ++ es.drop xs.length) false))) a (a.put o.dst r) w'→o.wp P a κ.w (fun a' w'=> After w0 A κ o (I (Nat.min xs.length es.length)) (m.set s g (some (.rows (T e).size (xs.take es.length ++ es.drop xs.length) false))) a a' w') Q:=by
       intro r w' hr hK
       refine wp_val ?_ hK
       unfold execOp
       rw [ho]
       simp only [resolve,List.map_toArray,List.map_cons,List.map_nil,Sem.run_bind,Sem.run_pure,Result.andThen_ok,invoke,builtin,hr]
      obtain ⟨hlen,hes,h3⟩:=hs.ok s g _ hi
      have hr:=ev_rel he hx
      generalize hyx:a.eval x=yx at hr
      have hint:∀κ':Cx,Rel κ' (I (Nat.min xs.length es.length)) (goInt (Nat.min xs.length es.length)):=fun κ'=> .d (.v _ rfl)
      have hmn:Nat.min xs.length es.length≤es.length:=Nat.min_le_right _ _
      have none_:Nat.min xs.length es.length=0→(Builtin.copy_ #[t,t] o.type #[a.eval x,a.eval y]).run P κ.w= .ok (goInt (Nat.min xs.length es.length)) κ.w→o.wp P a κ.w (fun a' w'=> After w0 A κ o (I (Nat.min xs.length es.length)) (m.set s g (some (.rows (T e).size (xs.take es.length ++ es.drop xs.length) false))) a a' w') Q:=by
       intro h0 hrn
       have hsame:xs.take es.length ++ es.drop xs.length=es:=by
        rcases Nat.min_eq_zero_iff.1 h0 with h | h
        ·have:xs= []:=List.eq_nil_of_length_eq_zero h
         subst this
         simp
        ·have:es= []:=List.eq_nil_of_length_eq_zero h
         subst this
         simp
       refine hrun _ _ hrn ?_
       rw [hsame]
       have:=hs.set (i':= .rows (T e).size es false) (w':=κ.w) hi rfl rfl (Nat.le_refl _) rfl rfl rfl rfl (fun _ _=> rfl) (fun hle=> (hs.ok s g _ hi).mono hle fun b hb=> rfl)
       exact ⟨_,rfl,this.1,this.2,_,rfl,hint _⟩
      have nothing:∀(A1 A2:Option Addr) (dl dc sl sc:Nat),Nat.min sl dl=0→(Builtin.copy_ #[t,t] o.type #[.slice A1 dl dc,.slice A2 sl sc]).run P κ.w= .ok (goInt 0) κ.w:=by
       intro A1 A2 dl dc sl sc h0
       have hl:∀(b:Addr),(loadCells b 0).run P κ.w= .ok #[] κ.w:=fun b=> by simpa using run_loadCells_list (P:=P) κ.w b [] (by simp)
       cases A1 <;> cases A2 <;> simp [Builtin.copy_,run_underlying hu,Builtin.lenOf,Builtin.firstCells,sizeOf,typeInfo,hit,h0,storeCells,hl]
      cases hr with
      | row0 A' hg hb hl=>
       have hes0:es.length=0:=by rw [hlen,hl]
       have h0:Nat.min xs.length es.length=0:=by rw [hes0];exact Nat.min_zero _
       refine none_ h0 ?_
       rw [hyx,h0]
       rcases flat_src hsrc hall with ⟨rfl,A2,c,hey⟩ | ⟨hne,b,q,c,news,hey,_⟩
       ·rw [hey];exact nothing _ _ _ _ _ _ rfl
       ·rw [hey];exact nothing _ _ _ _ _ _ (Nat.min_zero _)
      | @row _ _ b0 hg hb=>
       rcases h3 with ⟨h4,_⟩ | ⟨b',tt,cur,hb',hzz,hh,hlc,hcm,hcs,hra⟩
       ·rw [h4] at hb;cases hb
       ·rw [hb] at hb'
        injection hb' with hb'
        subst hb'
        rcases flat_src hsrc hall with ⟨rfl,A2,c,hey⟩ | ⟨hne,b,q,c,news,hey,hnl,hcell,h1,hrel⟩
        ·refine none_ (Nat.zero_min _) ?_
         rw [hyx,hey]
         exact nothing _ _ _ _ _ _ (Nat.zero_min _)
        ·generalize hk:Nat.min xs.length es.length=k at *
         have hk1:k≤xs.length:=by rw [←hk];exact Nat.min_le_left _ _
         have hk2:k≤es.length:=by rw [←hk];exact Nat.min_le_right _ _
         have hk3:xs.length≤es.length→k=xs.length:=fun h=> by rw [←hk];exact Nat.min_eq_left h
         have hk4:es.length≤xs.length→k=es.length:=fun h=> by rw [←hk];exact Nat.min_eq_right h
         have hnk:k * (T e).size≤news.length:=by rw [hnl];exact Nat.mul_le_mul_right _ hk1
         have hcl:(news.take (k * (T e).size)).length=k * (T e).size:=by rw [List.length_take];omega
         have hfit:k * (T e).size≤cur.size:=by
          rw [hcs]
          exact Nat.mul_le_mul_right _ (by omega)
         have hone:∀u∈news.take (k * (T e).size),u.oneCell'=true:=fun u hu=> h1 u (List.mem_of_mem_take hu)
         have hrn:(Builtin.copy_ #[t,t] o.type #[a.eval x,a.eval y]).run P κ.w= .ok (goInt k) (κ.w.setRow b0 (over cur.toList 0 (news.take (k * (T e).size))).toArray):=by
          have hf:=run_firstCells_some (P:=P) κ.w it.size k ⟨b,q,none⟩ xs.length c (news.take (k * (T e).size)) (by rw [hsz];exact hcl) (fun j u hu=> hcell j u (by
           rw [List.getElem?_take] at hu
           split at hu
           ·exact hu
           ·cases hu))
          have hst:=run_storeCells_at P b0 0 tt (news.take (k * (T e).size)) 0 cur κ.w hh (by rw [hcl];simpa using hfit) hone
          have hmin:Nat.min xs.length (κ.φ s g).len=k:=by rw [←hlen];exact hk
          simp only [Nat.add_zero] at hst
          rw [hyx,hey]
          simp only [Builtin.copy_]
          simp [run_underlying hu,sizeOf,typeInfo,hit,Builtin.lenOf,hmin,hf,hst,over]
         refine hrun _ _ hrn ?_
         have:=hs.set (i':= .rows (T e).size (xs.take es.length ++ es.drop xs.length) false) (w':=κ.w.setRow b0 (over cur.toList 0 (news.take (k * (T e).size))).toArray) hi rfl rfl (Nat.le_refl _) rfl rfl rfl (setRow_size _ _ _)
          (fun k' hk'=> by
           rw [setRow_other]
           rintro rfl
           exact hk' hb)
          (fun hle=> ⟨by simp;omega,fun e' he'=> by
            rcases List.mem_append.1 he' with h | h
            ·exact hall e' (List.mem_of_mem_take h)
            ·exact hes e' (List.mem_of_mem_drop h),
           Or.inr ⟨_,tt,_,hb,hzz,setRow_heap _ _ cur _ tt _ hh,hlc,hcm,by
            rw [List.size_toArray,over_length _ _ _ (by rw [hcl];simpa using hfit)]
            simpa using hcs,fun i j e' x' hi' hx'=> by
             have hov:∀p,((over cur.toList 0 (news.take (k * (T e).size))).toArray)[p]? =if p < k * (T e).size then news[p]? else cur[p]? :=by
              intro p
              have:=over_get cur.toList 0 (news.take (k * (T e).size)) (by rw [hcl];simpa using hfit) p
              simp only [Nat.not_lt_zero,if_false,Nat.zero_add,hcl,Nat.sub_zero] at this
              rw [List.getElem?_toArray,this]
              by_cases hp:p < k * (T e).size
              ·rw [if_pos hp,if_pos hp,List.getElem?_take,if_pos hp]
              ·rw [if_neg hp,if_neg hp]
               simp
             rw [List.getElem?_append] at hi'
             split at hi'
             ·rename_i hlt
              rw [List.length_take] at hlt
              rw [List.getElem?_take,if_pos (by omega)] at hi'
              have hj:j < (T e).size:=by
               have:=(List.getElem?_eq_some_iff.1 hx').1
               rw [hall e' (List.mem_of_getElem? hi')] at this
               exact this
              have hik:i < k:=by
               rcases Nat.le_total xs.length es.length with h | h
               ·rw [hk3 h];omega
               ·rw [hk4 h];omega
              have hpos':i * (T e).size + j < k * (T e).size:=by
               have:(i + 1) * (T e).size≤k * (T e).size:=Nat.mul_le_mul_right _ (by omega)
               rw [Nat.add_mul] at this
               omega
              obtain ⟨u,hu',hd'⟩:=hrel i j e' x' hi' hx'
              exact ⟨u,by rw [hov,if_pos hpos'];exact hu',hle.relD hd'⟩
             ·rename_i hlt
              rw [List.length_take] at hlt hi'
              rw [List.getElem?_drop] at hi'
              have hii:(List.drop xs.length es).length=es.length - xs.length:=List.length_drop ..
              have hex:xs.length + (i - min es.length xs.length) < es.length:=(List.getElem?_eq_some_iff.1 hi').1
              have hmx:min es.length xs.length=xs.length:=by omega
              rw [hmx] at hi' hlt
              have hie:xs.length + (i - xs.length)=i:=by omega
              rw [hie] at hi'
              have hkx:k=xs.length:=hk3 (by omega)
              have hge:¬i * (T e).size + j < k * (T e).size:=by
               have:k * (T e).size≤i * (T e).size:=Nat.mul_le_mul_right _ (by omega)
               omega
              obtain ⟨u,hu',hd'⟩:=hra i j e' x' hi' hx'
              exact ⟨u,by rw [hov,if_neg hge];exact hu',hle.relD hd'⟩⟩⟩)
         exact ⟨_,rfl,this.1,this.2,_,rfl,hint _⟩
  ·cases h
end
end Go.Proofs.YtmgcnoigihdhpaaGreatDoor
namespace Go.Proofs.YtmgcnoigihdhpaaGreatDoor
open Go.RowKit Go.MapKept
theorem ckHas_key {P:Program} {k:TK} {ck:CK} {d:TypeDesc} (hck:ckOf k=some ck) (hd:KOk P k d) {v:Value} (hv:ckHas ck v=true):IsKey d v:=by
 cases k <;> simp only [ckOf] at hck <;> first | (cases hck;done) | skip
 all_goals
  injection hck with hck
  subst hck
  have hd:d=_:=hd
  subst hd
  cases v <;> simp_all [ckHas,IsKey]
theorem ckSame_eq {c d:CK} (h:ckSame c d=true):c=d:=by
 cases c <;> cases d <;> simp_all [ckSame]
theorem i64V_inv {v:Value} (h:i64V v=true):∃n,v= .int .i64 n:=by
 unfold i64V at h
 split at h
 ·exact ⟨_,rfl⟩
 ·cases h
theorem keyEqL_iff:∀(a b:List Value),a.all i64V=true→b.all i64V=true→(keyEqL a b=true↔a=b)
 | [],[],_,_=> by simp [keyEqL]
 | [],_::_,_,_=> by simp [keyEqL]
 | _::_,[],_,_=> by simp [keyEqL]
 | x::r,y::r',ha,hb=> by
  rw [List.all_cons,Bool.and_eq_true] at ha hb
  obtain ⟨m,rfl⟩:=i64V_inv ha.1
  obtain ⟨n,rfl⟩:=i64V_inv hb.1
  simp [keyEqL,keyEq1,keyEqL_iff r r' ha.2 hb.2]
theorem ckHas_st {n:Nat} {v:Value} (h:ckHas (.st n) v=true):∃cs,v= .agg cs∧cs.toList.length=n∧cs.toList.all i64V=true:=by
 unfold ckHas at h
 split at h
 ·rename_i hq
  cases hq
  rw [Bool.and_eq_true,decide_eq_true_eq] at h
  exact ⟨_,rfl,h⟩
 all_goals first | (rename_i hq;cases hq;done) | cases h
theorem keyEq_iff {ck:CK} {a b:Value} (ha:ckHas ck a=true) (hb:ckHas ck b=true):keyEq a b=true↔a=b:=by
 cases ck with
 | st n=>
  obtain ⟨x,rfl,_,hx⟩:=ckHas_st ha
  obtain ⟨y,rfl,_,hy⟩:=ckHas_st hb
  unfold keyEq
  rw [keyEqL_iff _ _ hx hy]
  constructor
  ·intro h
   rw [Array.toList_inj.1 h]
  ·intro h
   injection h with h
   rw [h]
 | _=> cases a <;> cases b <;> simp_all [ckHas,keyEq,bytes_beq]
def findL (kv:Value):List MapEntry→Nat→Option (Nat×Value)
 | [],_=> none
 | e::l,i=> bif keyEq kv e.key then some (i,e.val) else findL kv l (i + 1)
structure KL (P:Program) (kt:Nat) (ck:CK):Prop where
 check:∀(w:World) (e:Bool) (v:Value),ckHas ck v=true→(Instr.checkKey e 10000 kt v).run P w= .ok () w
 find:∀(w:World) (kv:Value),ckHas ck kv=true→∀l:List MapEntry,(∀e∈l,ckHas ck e.key=true)→(Instr.findKey kt kv l).run P w= .ok (findL kv l 0) w
 stays:∀(w:World) (v:Value),ckHas ck v=true→(Instr.keyThatStays v v).run P w= .ok v w
theorem findNow_L {d:TypeDesc} {ck:CK} {kv:Value} (hk:∀v,ckHas ck v=true→IsKey d v) (hkv:ckHas ck kv=true):∀(l:List MapEntry) (i:Nat),(∀e∈l,ckHas ck e.key=true)→Instr.findNow d kv l i=some (findL kv l i)
 | [],i,_=> rfl
 | e::l,i,h=> by
  have h2:=h e (.head _)
  obtain ⟨r,hr,hri⟩:=sameNow_of_keys (hk _ hkv) (hk _ h2)
  have hke:=keyEq_iff hkv h2
  have hrk:r=keyEq kv e.key:=by
   rw [Bool.eq_iff_iff,hri,hke]
  subst hrk
  have ih:=findNow_L hk hkv l (i + 1) (fun x hx=> h x (.tail _ hx))
  simp only [Instr.findNow,hr,findL]
  cases keyEq kv e.key
  ·exact ih
  ·rfl
theorem KL.plain {P:Program} {k:TK} {ck:CK} {kt:Nat} {d:TypeDesc} (hck:ckOf k=some ck) (hd:KOk P k d) (hu:P.underlying kt=some d):KL P kt ck where
 check _w e _v hv:=MapKept.run_checkKey hu (ckHas_key hck hd hv) e 9999
 find _w _kv hkv l hl:=MapKept.run_findKey hu (findNow_L (fun _v hv=> ckHas_key hck hd hv) hkv l 0 hl)
 stays _w _v hv:=MapKept.run_keyThatStays (ckHas_key hck hd hv)
theorem relL_plain {κ:Cx}:∀(l:List Value),l.all i64V=true→RelL κ (l.map fun v=> .d (.v v)) l
 | [],_=> by
  exact RelL.nil κ
 | x::r,h=> by
  rw [List.all_cons,Bool.and_eq_true] at h
  obtain ⟨n,rfl⟩:=i64V_inv h.1
  exact RelL.cons (relv κ _) (relL_plain r h.2)
theorem eqCells_plain:∀(ks:List CK) (a b:List Value),ks.all isI64=true→a.length=ks.length→b.length=ks.length→a.all i64V=true→b.all i64V=true→eqCells ks (a.map fun v=> .d (.v v)) (b.map fun v=> .d (.v v))=some (keyEqL a b)
 | [],[],[],_,_,_,_,_=> rfl
 | k::ks,x::r,y::r',hk,ha,hb,hx,hy=> by
  rw [List.all_cons,Bool.and_eq_true] at hk hx hy
  obtain ⟨m,rfl⟩:=i64V_inv hx.1
  obtain ⟨n,rfl⟩:=i64V_inv hy.1
  have hk1:k= .i .i64:=by
   have:=hk.1
   unfold isI64 at this
   split at this
   ·rfl
   ·cases this
  subst hk1
  have ih:=eqCells_plain ks r r' hk.2 (by simpa using ha) (by simpa using hb) hx.2 hy.2
  simp only [List.map_cons,eqCells,ih]
  rfl
 | [],_::_,_,_,ha,_,_,_=> by simp at ha
 | [],[],_::_,_,_,hb,_,_=> by simp at hb
 | _::_,[],_,_,ha,_,_,_=> by simp at ha
 | _::_,_::_,[],_,_,hb,_,_=> by simp at hb
theorem sameBits_ints:∀(a:List Value),a.all i64V=true→((a.zip a).all fun (x,y)=> Instr.sameBits 9999 x y)=true
 | [],_=> rfl
 | x::r,h=> by
  rw [List.all_cons,Bool.and_eq_true] at h
  obtain ⟨n,rfl⟩:=i64V_inv h.1
  rw [List.zip_cons_cons,List.all_cons,sameBits_ints r h.2]
  simp [Instr.sameBits]
theorem KL.struct {P:Program} {kt:Nat} {ek:List CK} {fs:Array Field} (hu:P.underlying kt=some (.struct fs)) (hE:EqS P kt ek) (hk:ek.all isI64=true) (κ:Cx):KL P kt (.st ek.length) where
 check w e v hv:=by
  obtain ⟨cs,rfl,h1,h2⟩:=ckHas_st hv
  exact hE.key hk w e cs h1 h2
 find w kv hkv l hl:=by
  obtain ⟨a,rfl,a1,a2⟩:=ckHas_st hkv
  have ask:∀(l:List MapEntry) (i:Nat),(∀e∈l,ckHas (.st ek.length) e.key=true)→(Instr.findAsking kt (.agg a) l i).run P w= .ok (findL (.agg a) l i) w:=by
   intro l
   induction l with
   | nil=> intro i _;rfl
   | cons e l ih=>
    intro i h
    obtain ⟨b,hb,b1,b2⟩:=ckHas_st (h e (.head _))
    have he:=(hE.eq w a b _ _ _ (.tmp 0) (.tmp 0) κ (relL_plain _ a2) (relL_plain _ b2) (eqCells_plain ek _ _ hk a1 b1 a2 b2)).2.2
    have ih:=ih (i + 1) (fun x hx=> h x (.tail _ hx))
    simp only [Instr.findAsking,hb,Sem.run_bind,he,Result.andThen_ok,findL]
    show _=Result.ok (bif keyEqL a.toList b.toList then _ else _) w
    cases keyEqL a.toList b.toList
    ·simpa using ih
    ·rfl
  unfold Instr.findKey
  simp only [Sem.run_bind,run_underlying hu,Result.andThen_ok]
  cases l with
  | nil=> rfl
  | cons e l=>
   have:Instr.findNow (.struct fs) (.agg a) (e::l) 0=none:=rfl
   rw [this]
   exact ask (e::l) 0 hl
 stays w v hv:=by
  obtain ⟨cs,rfl,h1,h2⟩:=ckHas_st hv
  have:Instr.sameBits 10000 (.agg cs) (.agg cs)=true:=by
   show (cs.size==cs.size && (cs.toList.zip cs.toList).all fun (x,y)=> Instr.sameBits 9999 x y)=true
   rw [sameBits_ints _ h2,beq_self_eq_true]
   rfl
  simp [Instr.keyThatStays,this]
theorem KL.of {P:Program} {T:Nat→TI} (hT:TOk P T) {kt:Nat} {ck:CK} (hck:ckOfT T kt=some ck) (κ:Cx):KL P kt ck:=by
 unfold ckOfT at hck
 split at hck
 ·rename_i fs hk
  cases hb:(T kt).eqs && (T kt).ek.all isI64
  ·rw [hb] at hck;cases hck
  ·rw [hb] at hck
   injection hck with hck
   subst hck
   rw [Bool.and_eq_true] at hb
   obtain ⟨d,hu,hd⟩:=hT.kok hk (by simp)
   obtain ⟨fields,rfl,_⟩:=hd
   exact KL.struct hu ((hT.of hk (by simp)).eq hb.1) hb.2 κ
 ·obtain ⟨d,hu,hd⟩:=hT.kok (t:=kt) rfl (by intro e;rw [e] at hck;cases hck)
  exact KL.plain hck hd hu
theorem findL_get {ck:CK} {kv:Value} (hkv:ckHas ck kv=true) (v:D):∀(l:List MapEntry) (es:List (Value×D)) (i:Nat),l.length=es.length→
  (∀(j:Nat) (p:Value×D) (e:MapEntry),es[j]? =some p→l[j]? =some e→e.key=p.1∧ckHas ck p.1=true)→
  (findL kv l i=none∧mget kv es=none∧mput kv v es=es ++ [(kv,v)]∧mdel kv es=es∧∀e∈l,e.key≠kv)∨∃j e p,findL kv l i=some (i + j,e.val)∧l[j]? =some e∧es[j]? =some p∧e.key=kv∧mget kv es=some p.2∧mput kv v es=es.set j (kv,v)∧mdel kv es=es.eraseIdx j
 | [],es,i,hl,_=> by
  have:es= []:=List.eq_nil_of_length_eq_zero (by rw [←hl];rfl)
  subst this
  exact Or.inl ⟨rfl,rfl,rfl,rfl,by simp⟩
 | e::l,[],i,hl,_=> by simp at hl
 | e::l,p::es,i,hl,h=> by
  obtain ⟨h1,h2⟩:=h 0 p e rfl rfl
  have hke:=keyEq_iff hkv h2
  cases hq:keyEq kv p.1 with
  | true=>
   have hk:=hke.1 hq
   refine Or.inr ⟨0,e,p,?_,rfl,rfl,by rw [h1,hk],?_,?_,?_⟩
   ·simp only [findL,h1,hq,cond_true,Nat.add_zero]
   ·simp only [mget,hq,cond_true]
   ·simp only [mput,hq,cond_true,List.set_cons_zero]
   ·simp only [mdel,hq,cond_true,List.eraseIdx_cons_zero]
  | false=>
   have ih:=findL_get hkv v l es (i + 1) (by simpa using hl) (fun j p' e' hp he=> h (j + 1) p' e' (by simpa using hp) (by simpa using he))
   rcases ih with ⟨q1,q2,q3,q7,q8⟩ | ⟨j,e',p',q1,q2,q3,q4,q5,q6,q7⟩
   ·refine Or.inl ⟨?_,?_,?_,?_,?_⟩
    ·simp only [findL,h1,hq,cond_false];exact q1
    ·simp only [mget,hq,cond_false];exact q2
    ·simp only [mput,hq,cond_false,q3,List.cons_append]
    ·simp only [mdel,hq,cond_false,q7]
    ·intro x hx
     rcases List.mem_cons.1 hx with rfl | hx
     ·intro e0
      rw [h1] at e0
      rw [hke.2 e0.symm] at hq
      cases hq
     ·exact q8 x hx
   ·refine Or.inr ⟨j + 1,e',p',?_,by simpa using q2,by simpa using q3,q4,?_,?_,?_⟩
    ·simp only [findL,h1,hq,cond_false];rw [q1,Nat.add_assoc,Nat.add_comm 1 j]
    ·simp only [mget,hq,cond_false];exact q5
    ·simp only [mput,hq,cond_false,q6,List.set_cons_succ]
    ·simp only [mdel,hq,cond_false,q7,List.eraseIdx_cons_succ]
theorem zero1_rel {S:Nat→Prop} {w:World} {x:Value} {z:D} (h:zero1 x=some z):RelD S w z x:=by
 unfold zero1 at h
 split at h
 ·injection h with h
  subst h
  exact .fz0 _ _ fun _=> rfl
 ·cases h
 ·cases h
 ·cases ho:x.oneCell'
  ·rw [ho] at h;cases h
  ·rw [ho] at h
   injection h with h
   subst h
   exact .v _ ho
theorem zeroC_rel {S:Nat→Prop} {w:World}:∀(vs:List Value) (ds:List D),zeroC vs=some ds→vs.length=ds.length∧∀(j:Nat) (x:D) (y:Value),ds[j]? =some x→vs[j]? =some y→RelD S w x y
 | [],ds,h=> by
  injection h with h
  subst h
  exact ⟨rfl,fun j x y hx=> by simp at hx⟩
 | v::vs,ds,h=> by
  unfold zeroC at h
  split at h
  ·rename_i d ds' h1 h2
   injection h with h
   subst h
   obtain ⟨q1,q2⟩:=zeroC_rel vs ds' h2
   refine ⟨by simp [q1],fun j x y hx hy=> ?_⟩
   cases j with
   | zero=>
    simp at hx hy
    subst hx hy
    exact zero1_rel h1
   | succ j=> exact q2 j x y (by simpa using hx) (by simpa using hy)
  ·cases h
theorem zeroO_rel {S:Nat→Prop} {w:World} {te:TI} {z:D} (h:zeroO te=some z):RelE S w z te.zero:=by
 unfold zeroO at h
 split at h
 ·rename_i cs hz
  cases hq:zeroC cs.toList with
  | none=> rw [hq] at h;cases h
  | some ds=>
   rw [hq] at h
   injection h with h
   subst h
   obtain ⟨q1,q2⟩:=zeroC_rel (S:=S) (w:=w) _ _ hq
   rw [hz]
   exact ⟨cs,rfl,by simpa using q1,fun j x y hx hy=> q2 j x y hx (by simpa using hy)⟩
 ·exact .of (zero1_rel h)
theorem elemD_runs {F:FuncId→List AV→AV→Prop} {w0:Start} {A:Nat→Prop} {x:AV} {k:D→Step} {m:Mem} {κ:Cx} {u:Value} {v:AV} {m':Mem} (hs:Sim w0 A m κ) (hu:Rel κ x u) (h:(elemD x k).Runs F m v m'):
  ∃m1 κ1 y,Sim w0 A m1 κ1∧κ.Le κ1∧κ1.w=κ.w∧RelE κ1.S κ1.w y u∧(k y).Runs F m1 v m':=by
 by_cases hc:∃cs,x= .agg cs
 ·obtain ⟨cs,rfl⟩:=hc
  obtain ⟨us,rfl,hus⟩:=hu.agg_inv
  obtain ⟨m1,κ1,ds,g1,g2,g3,⟨g4,g5⟩,g6⟩:=dataList_runs cs _ m κ us.toList v m' hs hus h
  exact ⟨m1,κ1,.ag ds,g1,g2,g3,⟨us,rfl,by simpa using g4.symm,fun j x y hx hy=> g5 j x y hx (by simpa using hy)⟩,g6⟩
 ·have h':(dataOf x k).Runs F m v m':=by
   cases x <;> first | exact h | exact absurd ⟨_,rfl⟩ hc
  obtain ⟨m1,κ1,y,g1,g2,g3,g4,g5⟩:=dataOf_runs hs hu h'
  exact ⟨m1,κ1,y,g1,g2,g3,.of g4,g5⟩
section
variable {P : Program} {T : Nat → TI} {F : FuncId → List AV → AV → Prop} {w0 : Start} {A : Nat → Prop} {o : Oper} {a : Act} {κ : Cx} {m m' : Mem} {v : AV} {Q : Exit → Act → World → Prop} {env : Nat → Option AV}
theorem sim_mkmap (_hT:TOk P T) (hs:Sim w0 A m κ) {t s:Nat} (ho:o.op= .makeMap t none) (h:(mkmapF T (T t).k s).Runs F m v m'):o.wp P a κ.w (fun a' w'=> After w0 A κ o v m' a a' w') Q:=by
 generalize hk:(T t).k=k at h
 unfold mkmapF at h
 split at h
 ·rename_i kt et
  split at h
  ·rename_i ck hck
   cases h with
   | new h=>
    obtain ⟨rfl,rfl⟩:=ret_inv h
    have hrun:(execOp a.eval o).run P κ.w= .ok (.value (.map (some κ.w.heap.size))) (κ.w.alloc (.map #[] 0)):=by
     unfold execOp
     rw [ho]
     simp [Instr.makeMap,newObj,Sem.run,Result.andThen]
    have hgn:m.gen s + 1=κ.gn s + 1:=by rw [hs.gn]
    obtain ⟨q1,q2⟩:=hs.add (belowD_alloc κ.w (.map #[] 0)) s (.mapi ck []) ⟨some κ.w.heap.size,0,0,0⟩ (fun b hb=> by injection hb with hb;subst hb;exact hs.fresh (Nat.le_refl _) (by simp)) rfl
     (fun hle=> ⟨_,#[],0,rfl,(heap_alloc κ.w _).1,⟨rfl,fun j p e hp=> by simp at hp⟩,stamped_empty 0⟩)
    refine wp_val hrun ⟨_,rfl,q1,q2,_,rfl,?_⟩
    rw [hgn]
    exact .mp (by rw [Cx.put_gn];exact Nat.le_refl _) (by rw [Cx.put_new])
  ·cases h
 ·cases h
theorem MapAt.list {ck:CK} {ents:Array MapEntry} {es:List (Value×D)} (h:MapAt κ ck ents es):ents.toList.length=es.length∧∀(j:Nat) (p:Value×D) (e:MapEntry),es[j]? =some p→ents.toList[j]? =some e→e.key=p.1∧ckHas ck p.1=true:=
 ⟨by simpa using h.1,fun j p e hp he=> ⟨(h.2 j p e hp (by simpa using he)).1,(h.2 j p e hp (by simpa using he)).2.2⟩⟩
theorem MapAt.keys {ck:CK} {ents:Array MapEntry} {es:List (Value×D)} (h:MapAt κ ck ents es):∀e∈ents.toList,ckHas ck e.key=true:=by
 intro e he
 obtain ⟨j,hj,rfl⟩:=List.getElem_of_mem he
 have hl:=h.list.1
 have hp:es[j]? =some es[j]:=List.getElem?_eq_getElem (by omega)
 obtain ⟨h1,h2⟩:=h.list.2 j es[j] _ hp (List.getElem?_eq_getElem hj)
 rw [h1]
 exact h2
theorem plainL_val:∀{cs:List AV} {vs l:List Value},RelL κ cs vs→plainL cs=some l→vs=l
 | [],vs,l,h,hl=> by
  injection hl with hl
  rw [←hl]
  exact h.nil_inv
 | c::cs,vs,l,h,hl=> by
  obtain ⟨v,vs',rfl,hc,hr⟩:=h.cons_inv
  unfold plainL at hl
  split at hl
  ·rename_i hq
   cases hq
  ·rename_i x r hq
   injection hq with hq1 hq2
   subst hq1 hq2
   split at hl
   ·rename_i l' hl'
    injection hl with hl
    rw [←hl,hc.val,plainL_val hr hl']
   ·cases hl
  ·cases hl
theorem keyV_val (he:EnvOk κ env a.tmps) {ix:Operand} {kv:Value} (h:keyV (rhoOf env ix)=some kv):a.eval ix=kv:=by
 generalize hix:rhoOf env ix=c at h
 unfold keyV at h
 split at h
 ·injection h with h
  subst h
  exact (ev_rel he hix).val
 ·split at h
  ·rename_i cs l hl
   injection h with h
   subst h
   obtain ⟨us,hu,hus⟩:=(ev_rel he hix).agg_inv
   rw [hu]
   have:=plainL_val hus hl
   rw [←this]
  ·cases h
 ·cases h
theorem sim_lookup (hT:TOk P T) (hs:Sim w0 A m κ) (he:EnvOk κ env a.tmps) {t:Nat} {x ix:Operand} {ok:Bool} (ho:o.op= .lookup t x ix ok) (h:(lookupF T (T t).k ok (rhoOf env x) (rhoOf env ix)).Runs F m v m'):
  o.wp P a κ.w (fun a' w'=> After w0 A κ o v m' a a' w') Q:=by
 generalize hk:(T t).k=k at h
 generalize hx:rhoOf env x=cx at h
 generalize hix:rhoOf env ix=cix at h
 have hmap:∀(kt et:Nat) (ck:CK) (z:D) (kv:Value) (es:List (Value×D)) (b:Nat) (ents:Array MapEntry) (clock:Nat),k= .map kt et→keyV cix=some kv→ckOfT T kt=some ck→zeroO (T et)=some z→((T et).known && ckHas ck kv)=true→a.eval x= .map (some b)→κ.w.heap[b]? =some (.map ents clock)→MapAt κ ck ents es→v=mres ok (mget kv es) z→m'=m→
   o.wp P a κ.w (fun a' w'=> After w0 A κ o v m' a a' w') Q:=by
  rintro kt et ck z kv es b ents clock rfl hcix hck hz hb hev hh hm rfl rfl
  rw [←hix] at hcix
  rw [Bool.and_eq_true] at hb
  obtain ⟨d0,hu0,hd0⟩:=hT.kok hk (by simp)
  have hd0:d0= .map kt et:=hd0
  subst hd0
  have hK:=KL.of hT hck κ
  obtain ⟨ei,hei,_,_,hez⟩:=(hT et hb.1).info
  have hkv:=keyV_val he hcix
  have hzr:∀{S:Nat→Prop},RelE S κ.w z (T et).zero:=zeroO_rel hz
  have hck':=fun e=> hK.check κ.w e kv hb.2
  have hF:=hK.find κ.w kv hb.2 ents.toList hm.keys
  have fin:∀(u:Value) (r:Bool) (dd:D),(Instr.lookup t (.map (some b)) kv ok).run P κ.w= .ok (if ok then .tuple #[u,.bool r] else u) κ.w→RelE κ.S κ.w dd u→mres ok (mget kv es) z=(bif ok then .tup [mcell dd,B r] else mcell dd)→o.wp P a κ.w (fun a' w'=> After w0 A κ o (mres ok (mget kv es) z) m' a a' w') Q:=by
   intro u r dd hrun hr hv
   refine fin_val hs (x:=if ok then .tuple #[u,.bool r] else u) ?_ ?_
   ·unfold execOp
    rw [ho]
    simp only [hev,hkv,Sem.run_bind,hrun,Result.andThen_ok]
    rfl
   ·rw [hv]
    cases ok
    ·exact .ofE hr
    ·refine .tup rfl fun j c y hc hy=> ?_
     match j,hc,hy with
     | 0,hc,hy=>
      simp at hc hy
      subst hc hy
      exact .ofE hr
     | 1,hc,hy=>
      simp at hc hy
      subst hc hy
      exact relv κ _
     | j + 2,hc,hy=> simp at hc
  rcases findL_get hb.2 z ents.toList es 0 hm.list.1 hm.list.2 with ⟨q1,q2,_⟩ | ⟨j,e,p,q1,q2,q3,q4,q5,_⟩ <;> rw [q1] at hF
  ·refine fin (T et).zero false z ?_ hzr (by rw [q2];rfl)
   simp [Instr.lookup,run_underlying hu0,MapKept.run_getObj_map hh,hck',hF,zeroValue,typeInfo,hei,hez,Result.andThen]
  ·refine fin e.val true p.2 ?_ (hm.2 j p e q3 (by simpa using q2)).2.1 (by rw [q5];rfl)
   simp [Instr.lookup,run_underlying hu0,MapKept.run_getObj_map hh,hck',hF,Result.andThen]
 generalize hkx:keyV cix=kx at h
 unfold lookupF at h
 split at h
 ·rename_i kt et s g kv hkx
  split at h
  ·rename_i ck z hck hz
   cases hb:(T et).known && ckHas ck kv
   ·rw [hb] at h;cases h
   rw [hb] at h
   simp only [cond_true] at h
   cases h with
   | rdm hi h=>
    rename_i ck' es
    dsimp only at h
    cases hsm:ckSame ck ck'
    ·rw [hsm] at h;cases h
    rw [hsm] at h
    have hsm:=ckSame_eq hsm
    subst hsm
    obtain ⟨rfl,rfl⟩:=ret_inv h
    obtain ⟨b,ents,clock,hev,hbk,hh,hm,_⟩:=map_block hs hi (ev_rel he hx)
    exact hmap kt et ck z kv es b ents clock rfl hkx hck hz hb hev hh hm rfl rfl
  ·cases h
 ·rename_i kt et ck' es kv hkx
  split at h
  ·rename_i ck z hck hz
   cases hb:(T et).known && ckHas ck kv && ckSame ck ck'
   ·rw [hb] at h;cases h
   rw [hb] at h
   rw [Bool.and_eq_true] at hb
   have hsm:=ckSame_eq hb.2
   subst hsm
   obtain ⟨rfl,rfl⟩:=ret_inv h
   have hr:=ev_rel he hx
   generalize hu:a.eval x=u at hr
   cases hr with
   | d hr=>
    obtain ⟨b,ents,clock,rfl,hbS,hh,hm,_⟩:=hr.map_inv
    exact hmap kt et ck z kv es b ents clock rfl hkx hck hz hb.1 hu hh hm rfl rfl
  ·cases h
 ·cases h
theorem sim_mupd (hT:TOk P T) (hs:Sim w0 A m κ) (he:EnvOk κ env a.tmps) {t:Nat} {x ix y:Operand} (ho:o.op= .mapUpdate t x ix y∨o.op= .insert t x ix y) (h:(mupdF T (T t).k (rhoOf env x) (rhoOf env ix) (rhoOf env y)).Runs F m v m'):
  o.wp P a κ.w (fun a' w'=> After w0 A κ o v m' a a' w') Q:=by
 generalize hk:(T t).k=k at h
 generalize hx:rhoOf env x=cx at h
 generalize hix:rhoOf env ix=cix at h
 generalize hy:rhoOf env y=cy at h
 generalize hkx:keyV cix=kx at h
 unfold mupdF at h
 split at h
 ·rename_i kt et s g kv yv hkx
  split at h
  ·rename_i ck hck
   cases hb:ckHas ck kv
   ·rw [hb] at h;cases h
   rw [hb] at h
   simp only [cond_true] at h
   obtain ⟨m1,κ1,dd,g1,g2,g3,g4,h⟩:=elemD_runs hs (ev_rel he hy) h
   cases h with
   | rdm hi h=>
    rename_i ck' es
    dsimp only at h
    cases hsm:ckSame ck ck'
    ·rw [hsm] at h;cases h
    rw [hsm] at h
    have hsm:=ckSame_eq hsm
    subst hsm
    simp only [cond_true] at h
    cases h with
    | wr h=>
     obtain ⟨rfl,rfl⟩:=ret_inv h
     obtain ⟨d0,hu0,hd0⟩:=hT.kok hk (by simp)
     have hd0:d0= .map kt et:=hd0
     subst hd0
     have hK:=KL.of hT hck κ
     obtain ⟨b,ents,clock,hev,hbk,hh,hm,hst⟩:=map_block g1 hi ((ev_rel he hx).mono g2)
     rw [←hix] at hkx
     have hkv:=keyV_val he hkx
     have hck':=fun e=> hK.check κ.w e kv hb
     have hF:=hK.find κ.w kv hb ents.toList hm.keys
     have hst':=hK.stays κ.w kv hb
     rw [g3] at hh
     have fin:∀(ents':Array MapEntry) (clock':Nat) (es':List (Value×D)),(Instr.mapUpdate t (.map (some b)) kv (a.eval y)).run P κ.w= .ok () {κ.w with heap:=κ.w.heap.setIfInBounds b (.map ents' clock')}→
       ents'.size=es'.length→(∀(j:Nat) (p:Value×D) (e:MapEntry),es'[j]? =some p→ents'[j]? =some e→(e.key=p.1∧ckHas ck p.1=true)∧RelE κ1.S κ1.w p.2 e.val)→Stamped ents' clock'→mput kv dd es=es'→
       o.wp P a κ.w (fun a' w'=> After w0 A κ o (.tup []) (m1.set s g (some (.mapi ck (mput kv dd es)))) a a' w') Q:=by
      intro ents' clock' es' hrun hsz hrel hst' hes
      subst hes
      have hset:=heap_set (o':= .map ents' clock') hh
      obtain ⟨t1,t2⟩:=g1.set (i':= .mapi ck (mput kv dd es)) (w':={κ1.w with heap:=κ1.w.heap.setIfInBounds b (.map ents' clock')}) hi rfl rfl (Nat.le_refl _) rfl rfl rfl (by simp) (fun q hq=> by
        rw [g3]
        exact hset.2 q fun e=> hq (by rw [e];exact hbk))
       (fun hle=> ⟨b,ents',clock',hbk,by rw [g3];exact hset.1,⟨hsz,fun j p e hp he'=> ⟨(hrel j p e hp he').1.1,hle.relE (hrel j p e hp he').2,(hrel j p e hp he').1.2⟩⟩,hst'⟩)
      refine wp_skp (w':={κ.w with heap:=κ.w.heap.setIfInBounds b (.map ents' clock')}) ?_ ⟨_,by rw [←g3],t1,g2.trans t2,undef,rfl,.tup rfl fun j c y h=> by simp at h⟩
      rcases ho with ho | ho
      ·unfold execOp
       rw [ho]
       simp only [hev,hkv,Sem.run_bind,hrun,Result.andThen_ok]
       rfl
      ·unfold execOp
       rw [ho]
       simp only [hev,hkv,Sem.run_bind,hrun,Result.andThen_ok]
       rfl
     rcases findL_get hb dd ents.toList es 0 hm.list.1 hm.list.2 with ⟨q1,_,q2,_,q6⟩ | ⟨j,e,p,q1,q2,q3,q4,_,q5,_⟩ <;> rw [q1] at hF
     ·refine fin (ents.push ⟨kv,a.eval y,clock⟩) (clock + 1) _ ?_ (by simp [hm.1]) (fun j' p' e' hp he'=> ?_) (stamped_push hst q6) q2
      ·simp [Instr.mapUpdate,run_underlying hu0,MapKept.run_getObj_map hh,hck',hF,MapKept.run_setObj_map _ hh,Result.andThen]
      ·rw [List.getElem?_append] at hp
       rw [Array.getElem?_push] at he'
       split at hp
       ·rename_i hlt
        rw [if_neg (by rw [hm.1];omega)] at he'
        have:=hm.2 j' p' e' hp he'
        exact ⟨⟨this.1,this.2.2⟩,this.2.1⟩
       ·rename_i hge
        by_cases hj:j'=es.length
        ·subst hj
         rw [if_pos hm.1.symm] at he'
         simp at hp he'
         subst hp he'
         exact ⟨⟨rfl,hb⟩,g4⟩
        ·rw [List.getElem?_eq_none (by simp;omega)] at hp
         cases hp
     ·have hj:ents[j]? =some e:=by simpa using q2
      refine fin (ents.modify j fun e=> {e with key:=kv,val:=a.eval y}) clock _ ?_ (by simp [hm.1]) (fun j' p' e' hp he'=> ?_) (stamped_modify hst j _ (fun _ _=> rfl) fun e' _ he'=> by rw [hj] at he';injection he' with he';subst he';exact q4.symm) q5
      ·rw [Nat.zero_add] at hF
       simp [Instr.mapUpdate,run_underlying hu0,MapKept.run_getObj_map hh,hck',hF,hj,q4,hst',MapKept.run_setObj_map _ hh,Result.andThen]
      ·rw [Array.getElem?_modify] at he'
       by_cases hjj:j=j'
       ·subst hjj
        rw [if_pos rfl,hj] at he'
        rw [List.getElem?_set_self (List.getElem?_eq_some_iff.1 q3).1] at hp
        simp at hp he'
        subst hp he'
        exact ⟨⟨rfl,hb⟩,g4⟩
       ·rw [if_neg hjj] at he'
        rw [List.getElem?_set_ne hjj] at hp
        have:=hm.2 j' p' e' hp he'
        exact ⟨⟨this.1,this.2.2⟩,this.2.1⟩
  ·cases h
 ·cases h
theorem sim_mdel (hT:TOk P T) (hs:Sim w0 A m κ) (he:EnvOk κ env a.tmps) {t t':Nat} {x ix:Operand} (ho:o.op= .call {callee:= .builtin .delete,args:= #[x,ix],argTypes:= #[t,t']}) (h:(mdelF T (T t).k (rhoOf env x) (rhoOf env ix)).Runs F m v m'):
  o.wp P a κ.w (fun a' w'=> After w0 A κ o v m' a a' w') Q:=by
 generalize hk:(T t).k=k at h
 generalize hx:rhoOf env x=cx at h
 generalize hix:rhoOf env ix=cix at h
 generalize hkx:keyV cix=kx at h
 unfold mdelF at h
 split at h
 ·rename_i kt et s g kv hkx
  split at h
  ·rename_i ck hck
   cases hb:ckHas ck kv
   ·rw [hb] at h;cases h
   rw [hb] at h
   simp only [cond_true] at h
   cases h with
   | rdm hi h=>
    rename_i ck' es
    dsimp only at h
    cases hsm:ckSame ck ck'
    ·rw [hsm] at h;cases h
    rw [hsm] at h
    have hsm:=ckSame_eq hsm
    subst hsm
    simp only [cond_true] at h
    cases h with
    | wr h=>
     obtain ⟨rfl,rfl⟩:=ret_inv h
     obtain ⟨d0,hu0,hd0⟩:=hT.kok hk (by simp)
     have hd0:d0= .map kt et:=hd0
     subst hd0
     have hK:=KL.of hT hck κ
     obtain ⟨b,ents,clock,hev,hbk,hh,hm,hst⟩:=map_block hs hi (ev_rel he hx)
     rw [←hix] at hkx
     have hkv:=keyV_val he hkx
     have hck':=fun e=> hK.check κ.w e kv hb
     have hF:=hK.find κ.w kv hb ents.toList hm.keys
     have hst':=hK.stays κ.w kv hb
     have fin:∀(ents':Array MapEntry) (es':List (Value×D)),(Builtin.delete_ #[t,t'] o.type #[.map (some b),kv]).run P κ.w= .ok (.tuple #[]) {κ.w with heap:=κ.w.heap.setIfInBounds b (.map ents' clock)}→
       ents'.size=es'.length→(∀(j:Nat) (p:Value×D) (e:MapEntry),es'[j]? =some p→ents'[j]? =some e→(e.key=p.1∧ckHas ck p.1=true)∧RelE κ.S κ.w p.2 e.val)→Stamped ents' clock→mdel kv es=es'→
       o.wp P a κ.w (fun a' w'=> After w0 A κ o (.tup []) (m.set s g (some (.mapi ck (mdel kv es)))) a a' w') Q:=by
      intro ents' es' hrun hsz hrel hst' hes
      subst hes
      have hset:=heap_set (o':= .map ents' clock) hh
      obtain ⟨t1,t2⟩:=hs.set (i':= .mapi ck (mdel kv es)) (w':={κ.w with heap:=κ.w.heap.setIfInBounds b (.map ents' clock)}) hi rfl rfl (Nat.le_refl _) rfl rfl rfl (by simp) (fun q hq=> hset.2 q fun e=> hq (by rw [e];exact hbk))
       (fun hle=> ⟨b,ents',clock,hbk,hset.1,⟨hsz,fun j p e hp he'=> ⟨(hrel j p e hp he').1.1,hle.relE (hrel j p e hp he').2,(hrel j p e hp he').1.2⟩⟩,hst'⟩)
      refine wp_val (w':={κ.w with heap:=κ.w.heap.setIfInBounds b (.map ents' clock)}) ?_ ⟨_,rfl,t1,t2,.tuple #[],rfl,.tup rfl fun j c y h=> by simp at h⟩
      unfold execOp
      rw [ho]
      simp only [resolve,List.map_toArray,List.map_cons,List.map_nil,Sem.run_bind,Sem.run_pure,Result.andThen_ok,invoke,builtin,hev,hkv,hrun]
     rcases findL_get hb (.v kv) ents.toList es 0 hm.list.1 hm.list.2 with ⟨q1,_,_,q2,_⟩ | ⟨j,e,p,q1,q2,q3,_,_,_,q5⟩ <;> rw [q1] at hF
     ·refine fin ents _ ?_ hm.1 (fun j' p' e' hp he'=> ?_) hst q2
      ·simp [Builtin.delete_,run_underlying hu0,MapKept.run_getObj_map hh,hck',hF,MapKept.run_setObj_map _ hh,Result.andThen]
      ·have:=hm.2 j' p' e' hp he'
       exact ⟨⟨this.1,this.2.2⟩,this.2.1⟩
     ·have hj:ents[j]? =some e:=by simpa using q2
      have hlt:j < ents.size:=(Array.getElem?_eq_some_iff.1 hj).1
      have hel:(ents.eraseIdxIfInBounds j).toList=ents.toList.eraseIdx j:=by
       unfold Array.eraseIdxIfInBounds
       rw [dif_pos hlt,Array.toList_eraseIdx]
      have hze:(ents.eraseIdxIfInBounds j).size=(es.eraseIdx j).length:=by
       rw [←Array.length_toList,hel,List.length_eraseIdx,List.length_eraseIdx,hm.list.1]
      refine fin (ents.eraseIdxIfInBounds j) _ ?_ hze (fun j' p' e' hp he'=> ?_) (stamped_erase hst j) q5
      ·rw [Nat.zero_add] at hF
       simp [Builtin.delete_,run_underlying hu0,MapKept.run_getObj_map hh,hck',hF,MapKept.run_setObj_map _ hh,Result.andThen]
      ·rw [←Array.getElem?_toList,hel] at he'
       rw [List.getElem?_eraseIdx] at hp he'
       split at hp
       ·rename_i hlt'
        rw [if_pos hlt'] at he'
        have:=hm.2 j' p' e' hp (by simpa using he')
        exact ⟨⟨this.1,this.2.2⟩,this.2.1⟩
       ·rename_i hlt'
        rw [if_neg hlt'] at he'
        have:=hm.2 (j' + 1) p' e' hp (by simpa using he')
        exact ⟨⟨this.1,this.2.2⟩,this.2.1⟩
  ·cases h
 ·cases h
end
end Go.Proofs.YtmgcnoigihdhpaaGreatDoor
