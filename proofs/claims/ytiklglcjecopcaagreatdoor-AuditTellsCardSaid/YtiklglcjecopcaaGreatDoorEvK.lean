/-
  Evaluation of Go code on plain data: append, slice literals, calls. Over any program.
-/
import Derived.Test.YtiklglcjecopcaaGreatDoorEvJ
namespace Go.Proofs.YtiklglcjecopcaaGreatDoor
open Go.RowKit
theorem Sim.upd {w0:Start} {A:Nat→Prop} {m:Mem} {κ:Cx} (h:Sim w0 A m κ) {w':World} {g:Nat} (hf:Free w0 m κ g)
  (hdr:κ.w.drawn≤w'.drawn) (ho:w'.os=κ.w.os) (ht:w'.tape=κ.w.tape) (hp:w'.output=κ.w.output) (hsz:w'.heap.size=κ.w.heap.size) (hw:∀b,b≠g→w'.heap[b]? =κ.w.heap[b]?):
  Sim w0 A m {κ with w:=w'}∧κ.Le {κ with w:=w'}:=by
 have hSw:∀b,κ.S b→w'.heap[b]? =κ.w.heap[b]? :=fun b hS=> hw b fun e=> hf.2.2.1 (e ▸ hS)
 have hle:κ.Le {κ with w:=w'}:=⟨fun _=> Nat.le_refl _,fun _ _ _=> rfl,fun _ h=> h,hSw⟩
 have hbel:BelowX w0.dr w0.o w0.w w':=h.below.step ho ht hp (by omega) (fun _=> hdr) fun k hk hne=> hw k fun e=> by
  rcases hf.1 with h1 | h1
  ·omega
  ·exact hne (by rw [e];exact h1)
 refine ⟨⟨hbel,h.gn,fun s g' i hi=> (h.ok s g' i hi).mono hle fun b hb=> hw b fun e=> hf.2.2.2 s g' i hi (e ▸ hb),h.gens,fun s g' i b hi hb=> ?_,h.notS,h.isS,h.sep,fun b hS=> ?_,h.args,h.pin⟩,hle⟩
 ·show _∧b < w'.heap.size
  rw [hsz]
  exact h.own s g' i b hi hb
 ·show b < w'.heap.size∧_
  rw [hsz]
  exact h.st b hS
section
variable {P : Program} {T : Nat → TI} {F : FuncId → List AV → AV → Prop} {w0 : Start} {A : Nat → Prop} {o : Oper} {a : Act} {κ : Cx} {m m' : Mem} {v : AV} {Q : Exit → Act → World → Prop} {env : Nat → Option AV}
theorem flat_src {xs:List (List D)} {y:Value} (h:Src κ xs y) {sz:Nat} (hall:∀c∈xs,c.length=sz):
  (xs= []∧∃A' c,y= .slice A' 0 c)∨(xs≠ []∧∃(b q c:Nat) (news:List Value),y= .slice (some ⟨b,q,none⟩) xs.length c∧news.length=xs.length * sz∧(∀(j:Nat) (u:Value),news[j]? =some u→κ.w.cell? ((⟨b,q,none⟩:Addr).add j)=some u)∧(∀u∈news,u.oneCell'=true)∧
   ∀(i j:Nat) (e:List D) (x:D),xs[i]? =some e→e[j]? =some x→∃u,news[i * sz + j]? =some u∧RelD κ.S κ.w x u):=by
 rcases h with h | ⟨b,q,c,sz',vs,rfl,hs,hc,hr⟩
 ·exact Or.inl h
 ·by_cases hx:xs= []
  ·subst hx
   exact Or.inl ⟨rfl,_,_,rfl⟩
  ·have hszz:sz'=sz:=by
    obtain ⟨e,es',rfl⟩:=List.exists_cons_of_ne_nil hx
    rw [←hs e (by simp),hall e (by simp)]
   subst hszz
   refine Or.inr ⟨hx,b,q,c,(List.range (xs.length * sz')).map vs,rfl,by simp,fun j u hu=> ?_,fun u hu=> ?_,fun i j e x he hx'=> ?_⟩
   ·have hlt:j < xs.length * sz':=by simpa using (List.getElem?_eq_some_iff.1 hu).1
    simp [hlt] at hu
    subst hu
    rw [add_eq]
    exact hc j hlt
   ·obtain ⟨j,hj,rfl⟩:=List.mem_map.1 hu
    have hlt:j < xs.length * sz':=List.mem_range.1 hj
    have hpos:0 < sz':=by
     rcases Nat.eq_zero_or_pos sz' with h0 | h0
     ·rw [h0,Nat.mul_zero] at hlt;omega
     ·exact h0
    have hd:j / sz' < xs.length:=Nat.div_lt_of_lt_mul (by rw [Nat.mul_comm];exact hlt)
    have hm:j % sz' < xs[j / sz'].length:=by rw [hs _ (List.getElem_mem hd)];exact Nat.mod_lt _ hpos
    have:=hr (j / sz') (j % sz') xs[j / sz'] (xs[j / sz'][j % sz']) (List.getElem?_eq_getElem hd) (List.getElem?_eq_getElem hm)
    rw [Nat.mul_comm (j / sz') sz',Nat.div_add_mod] at this
    exact this.one
   ·refine ⟨_,?_,hr i j e x he hx'⟩
    have h1:i < xs.length:=(List.getElem?_eq_some_iff.1 he).1
    have h2:j < e.length:=(List.getElem?_eq_some_iff.1 hx').1
    rw [hs e (List.mem_of_getElem? he)] at h2
    have:(i + 1) * sz'≤xs.length * sz':=Nat.mul_le_mul_right _ (by omega)
    rw [Nat.add_mul] at this
    have hlt:i * sz' + j < xs.length * sz':=by omega
    simp [hlt]
theorem run_app_grow (w:World) {t e ty:TypeId} {it:TypeInfo} {z:Value} (hu:P.underlying t=some (.slice e)) (hi:P.info? e=some it) (hz:it.zero=some z) {base:Option Addr} {n cap:Nat} {olds:List Value} (hlo:olds.length=n * it.size)
  (hbase:base=none→n=0∧cap=0) (holds:∀b,base=some b→∀(j:Nat) (u:Value),olds[j]? =some u→w.cell? (b.add j)=some u) {ad:Addr} {k c:Nat} {news:List Value} (hl:news.length=k * it.size)
  (hnews:∀(j:Nat) (u:Value),news[j]? =some u→w.cell? (ad.add j)=some u) (hg:cap < n + k) (hk:0 < k) (hby:(n + k) * it.bytes≤1000000000) (hn63:n + k≤9223372036854775807):
  (Builtin.append_ #[t,t] ty #[.slice base n cap,.slice (some ad) k c]).run P w=
   .ok (.slice (some ⟨w.heap.size,0,none⟩) (n + k) (grownCap w (n + k) cap e)) (w.drew.alloc (.cells (olds.toArray ++ news.toArray ++ Builtin.zeroCells z.cells (grownCap w (n + k) cap e - (n + k))) e)):=by
 cases base with
 | none=>
  obtain ⟨rfl,rfl⟩:=hbase rfl
  have ho:olds= []:=List.eq_nil_of_length_eq_zero (by simpa using hlo)
  subst ho
  have:=run_append_nil (P:=P) w t ty e it z hu hi hz ad k c news hl hnews hk (by omega) (by simp only [Nat.zero_add] at hby;omega)
  simpa using this
 | some b=> exact run_append_grow (P:=P) w t ty e it z hu hi hz b n cap olds hlo (holds b rfl) ad k c news hl hnews hg (by omega) (growslice_fits hg (by omega))
theorem run_app_none (w:World) {t e ty:TypeId} {it:TypeInfo} (hu:P.underlying t=some (.slice e)) (hi:P.info? e=some it) (base A':Option Addr) (n cap c:Nat) (h:n≤cap):
  (Builtin.append_ #[t,t] ty #[.slice base n cap,.slice A' 0 c]).run P w= .ok (.slice base n cap) w:=by
 cases A' <;> cases base <;> simp [Builtin.append_,run_underlying hu,sizeOf,typeInfo,hi,Builtin.lenOf,h,Builtin.firstCells,loadCells,loadCellsFrom,storeCells]
theorem run_app_room (w:World) {t e ty tt:TypeId} {it:TypeInfo} (hu:P.underlying t=some (.slice e)) (hi:P.info? e=some it) {g n cap:Nat} {cur:Array Value} (hg:w.heap[g]? =some (.cells cur tt (0,0)))
  {ad:Addr} {k c:Nat} {news:List Value} (hl:news.length=k * it.size) (hnews:∀(j:Nat) (u:Value),news[j]? =some u→w.cell? (ad.add j)=some u) (h1:∀u∈news,u.oneCell'=true) (hroom:n + k≤cap) (hfit:n * it.size + news.length≤cur.size):
  (Builtin.append_ #[t,t] ty #[.slice (some ⟨g,0,none⟩) n cap,.slice (some ad) k c]).run P w= .ok (.slice (some ⟨g,0,none⟩) (n + k) cap) (w.setRow g (over cur.toList (n * it.size) news).toArray):=by
 have hf:=run_firstCells_some (P:=P) w it.size k ad k c news hl hnews
 have hst:=run_storeCells_at P g (n * it.size) tt news 0 cur w hg (by simpa using hfit) h1
 simp only [Nat.add_zero] at hst
 simp [Builtin.append_,run_underlying hu,sizeOf,typeInfo,hi,Builtin.lenOf,hroom,hf,Addr.add_lit,hst,over]
theorem app_rows {κ':Cx} {olds news rest:List Value} {sz:Nat} {es xs:List (List D)} (hlo:olds.length=es.length * sz) {cur:Array Value} (hcur:cur.toList=olds ++ news ++ rest)
  (ho:∀(i j:Nat) (e:List D) (x:D),es[i]? =some e→e[j]? =some x→∃u,olds[i * sz + j]? =some u∧RelD κ'.S κ'.w x u)
  (hn:∀(i j:Nat) (e:List D) (x:D),xs[i]? =some e→e[j]? =some x→∃u,news[i * sz + j]? =some u∧RelD κ'.S κ'.w x u):RowAt κ' cur sz (es ++ xs):=by
 intro i j e x hi hj
 have get:∀(q:Nat) (u:Value),(olds ++ news ++ rest)[q]? =some u→cur[q]? =some u:=fun q u h=> by rw [←hcur,Array.getElem?_toList] at h;exact h
 rw [List.getElem?_append] at hi
 split at hi
 ·rename_i hlt
  obtain ⟨u,hu,hd⟩:=ho i j e x hi hj
  refine ⟨u,get _ _ ?_,hd⟩
  have h1:i * sz + j < olds.length:=(List.getElem?_eq_some_iff.1 hu).1
  rw [List.append_assoc,List.getElem?_append_left h1]
  exact hu
 ·rename_i hge
  obtain ⟨u,hu,hd⟩:=hn _ j e x hi hj
  refine ⟨u,get _ _ ?_,hd⟩
  have h1:(i - es.length) * sz + j < news.length:=(List.getElem?_eq_some_iff.1 hu).1
  have e1:i * sz + j=olds.length + ((i - es.length) * sz + j):=by
   rw [hlo,Nat.sub_mul]
   have:es.length * sz≤i * sz:=Nat.mul_le_mul_right _ (by omega)
   omega
  rw [List.append_assoc,e1,List.getElem?_append_right (by omega),Nat.add_sub_cancel_left,List.getElem?_append_left h1]
  exact hu
theorem appendF_inv {te:TI} {s:Nat} {x y:Option AV} (h:(appendF te s x y).Runs F m v m'):te.known=true∧0 < te.size∧te.bytes≤1000∧∃d,y=some d∧
  ((x=some .nl∧(elemsOf d fun es=> .chk ((∀c∈es,c.length=te.size)∧es.length≤1000000) (.new s (.rows te.size es false) fun g=> .ret (.row s g es.length))).Runs F m v m')∨
   (∃s g n,x=some (.row s g n)∧(elemsOf d fun es=> .chk ((∀c∈es,c.length=te.size)∧n + es.length≤1000000) (.app s g te.size es fun g'=> .ret (.row s g' (n + es.length)))).Runs F m v m')∨
   ∃s g n,x=some (.sub s g 0 n)∧(elemsOf d fun es=> .chk ((∀c∈es,c.length=te.size)∧n + es.length≤1000000) (.rww s g fun sz l=> .wr s g (.rows sz (l.take n) false) (.app s g te.size es fun g'=> .ret (.sub s g' 0 (n + es.length))))).Runs F m v m'):=by
 unfold appendF at h
 cases hb:(te.known && Nat.blt 0 te.size && Nat.ble te.bytes 1000)
 ·rw [hb] at h;cases h
 ·rw [hb] at h
  simp only [cond_true] at h
  simp only [Bool.and_eq_true] at hb
  refine ⟨hb.1.1,Nat.lt_of_succ_le (Nat.le_of_ble_eq_true hb.1.2),Nat.le_of_ble_eq_true hb.2,?_⟩
  split at h
  ·exact ⟨_,rfl,Or.inl ⟨rfl,h⟩⟩
  ·exact ⟨_,rfl,Or.inr (Or.inl ⟨_,_,_,rfl,h⟩)⟩
  ·exact ⟨_,rfl,Or.inr (Or.inr ⟨_,_,_,rfl,h⟩)⟩
  ·cases h
theorem sim_append (hT:TOk P T) (hs:Sim w0 A m κ) (he:EnvOk κ env a.tmps) {x y:Operand} {t e z s:Nat} (ho:o.op= .call {callee:= .builtin .append,args:= #[x,y],argTypes:= #[t,t]}) (hk:(T t).k= .slice e z) (h:(appendF (T e) s (rhoOf env x) (rhoOf env y)).Runs F m v m'):
  o.wp P a κ.w (fun a' w'=> After w0 A κ o v m' a a' w') Q:=by
 obtain ⟨hkn,hpos,hb1000,d,hy,h⟩:=appendF_inv h
 have hmul:∀n,n≤1000000→n * (T e).bytes≤1000000000:=fun n hn=> Nat.le_trans (Nat.mul_le_mul hn hb1000) (by decide)
 have ht:=hT e hkn
 obtain ⟨it,hit,hsz,hby,hz⟩:=ht.info
 obtain ⟨dd,hu,hd,_⟩:=hT.kok hk (by simp)
 have hd:dd=_:=hd
 subst hd
 have hrun:∀(r:Value) (w':World),(Builtin.append_ #[t,t] o.type #[a.eval x,a.eval y]).run P κ.w= .ok r w'→After w0 A κ o v m' a (a.put o.dst r) w'→o.wp P a κ.w (fun a' w'=> After w0 A κ o v m' a a' w') Q:=by
  intro r w' hr hK
  refine wp_val ?_ hK
  unfold execOp
  rw [ho]
  simp only [resolve,List.map_toArray,List.map_cons,List.map_nil,Sem.run_bind,Sem.run_pure,Result.andThen_ok,invoke,builtin,hr]
 have zsz:∀n,(Builtin.zeroCells (T e).zero.cells n).size=n * (T e).size:=fun n=> by rw [size_zeroCells,ht.zsz]
 have grow:∀(m1:Mem) (s1:Nat) (es xs:List (List D)) (base:Option Addr) (cap:Nat) (olds news:List Value) (b q c:Nat),Sim w0 A m1 κ→a.eval x= .slice base es.length cap→a.eval y= .slice (some ⟨b,q,none⟩) xs.length c→
   olds.length=es.length * (T e).size→(base=none→es.length=0∧cap=0)→(∀b,base=some b→∀(j:Nat) (u:Value),olds[j]? =some u→κ.w.cell? (b.add j)=some u)→news.length=xs.length * (T e).size→
   (∀(j:Nat) (u:Value),news[j]? =some u→κ.w.cell? ((⟨b,q,none⟩:Addr).add j)=some u)→cap < es.length + xs.length→0 < xs.length→(es.length + xs.length) * (T e).bytes≤1000000000→es.length + xs.length≤9223372036854775807→(∀e'∈es,e'.length=(T e).size)→(∀e'∈xs,e'.length=(T e).size)→
   (∀(i j:Nat) (e':List D) (x':D),es[i]? =some e'→e'[j]? =some x'→∃u,olds[i * (T e).size + j]? =some u∧RelD κ.S κ.w x' u)→(∀(i j:Nat) (e':List D) (x':D),xs[i]? =some e'→e'[j]? =some x'→∃u,news[i * (T e).size + j]? =some u∧RelD κ.S κ.w x' u)→
   v= .row s1 (m1.gen s1 + 1) (es.length + xs.length)→m'=m1.add s1 (.rows (T e).size (es ++ xs) false)→o.wp P a κ.w (fun a' w'=> After w0 A κ o v m' a a' w') Q:=by
  intro m1 s1 es xs base cap olds news b q c hs1 hex hey hlo hbase holds hl hnews hcap hxs hbytes h63 hes hxss hro hrn hv hm'
  have:=run_app_grow (ty:=o.type) κ.w hu hit hz (base:=base) (n:=es.length) (cap:=cap) (olds:=olds) (by rw [hsz];exact hlo) hbase holds (ad:=⟨b,q,none⟩) (k:=xs.length) (c:=c) (news:=news) (by rw [hsz];exact hl) hnews hcap hxs (by rw [hby];exact hbytes) h63
  rw [←hex,←hey] at this
  refine hrun _ _ this ?_
  generalize hgc:grownCap κ.w (es.length + xs.length) cap e=gc at *
  have hge:es.length + xs.length≤gc:=by rw [←hgc];exact grownCap_ge _ _ _ _
  have hgm:gc≤maxLen:=by rw [←hgc];exact grownCap_le_maxLen _ _ _ _ (by simp only [maxLen];omega)
  subst hv hm'
  have hbel:BelowD w0.dr κ.w.heap.size κ.w (κ.w.drew.alloc (.cells (olds.toArray ++ news.toArray ++ Builtin.zeroCells (T e).zero.cells (gc - (es.length + xs.length))) e)):=((BelowD.refl κ.w.heap.size κ.w).drew).alloc (Nat.le_refl _) _
  obtain ⟨q1,q2⟩:=hs1.add hbel s1 (.rows (T e).size (es ++ xs) false) ⟨some κ.w.heap.size,gc,(T e).size,es.length + xs.length⟩ (fun b hb=> by injection hb with hb;subst hb;exact hs1.fresh (Nat.le_refl _) (by simp)) rfl
   (fun hle=> ⟨by simp,fun e' he'=> by
     rcases List.mem_append.1 he' with h | h
     ·exact hes e' h
     ·exact hxss e' h,
    Or.inr ⟨κ.w.heap.size,e,_,rfl,rfl,heap_alloc_new κ.w.drew _,hge,hgm,by
      simp only [Array.size_append,List.size_toArray,zsz,hlo,hl,←Nat.add_mul]
      congr 1
      omega,
     app_rows (rest:=(Builtin.zeroCells (T e).zero.cells (gc - (es.length + xs.length))).toList) hlo (by simp) (fun i j e' x' h1 h2=> let ⟨u,h3,h4⟩:=hro i j e' x' h1 h2;⟨u,h3,hle.relD h4⟩) (fun i j e' x' h1 h2=> let ⟨u,h3,h4⟩:=hrn i j e' x' h1 h2;⟨u,h3,hle.relD h4⟩)⟩⟩)
  refine ⟨_,rfl,q1,q2,_,rfl,?_⟩
  rw [←hs1.gn]
  have:=Rel.row (κ:=κ.put s1 ⟨some κ.w.heap.size,gc,(T e).size,es.length + xs.length⟩ (κ.w.drew.alloc (.cells (olds.toArray ++ news.toArray ++ Builtin.zeroCells (T e).zero.cells (gc - (es.length + xs.length))) e))) (s:=s1) (g:=κ.gn s1 + 1) (b:=κ.w.heap.size) (by rw [Cx.put_gn];exact Nat.le_refl _) (by rw [Cx.put_new])
  rw [Cx.put_new] at this
  exact this
 have onto:∀(m1:Mem) (s1 b0 cap n:Nat) (tt:TypeId) (cur:Array Value) (es xs:List (List D)),Sim w0 A m1 κ→Free w0 m1 κ b0→Src κ xs (a.eval y)→a.eval x= .slice (some ⟨b0,0,none⟩) n cap→es.length=n→(∀e'∈es,e'.length=(T e).size)→n≤cap→cap≤maxLen→κ.w.heap[b0]? =some (.cells cur tt (0,0))→cur.size=cap * (T e).size→RowAt κ cur (T e).size es→(∀c∈xs,c.length=(T e).size)→n + xs.length≤1000000→
   (∀κ' b c,m.gen s1 + 1≤κ'.gn s1→κ'.φ s1 (m.gen s1 + 1)=⟨some b,c,(T e).size,n + xs.length⟩→Rel κ' v (.slice (some ⟨b,0,none⟩) (n + xs.length) c))→m1.gen=m.gen→m'=m1.add s1 (.rows (T e).size (es ++ xs) false)→o.wp P a κ.w (fun a' w'=> After w0 A κ o v m' a a' w') Q:=by
  intro m1 s1 b0 cap n tt cur es xs hs1 hfree hsrc hyx' hlen' e2 hlc hcm hh hcs hra hall hbytes hv hgen hm'
  subst hm'
  have hgn:κ.gn s1 + 1=m.gen s1 + 1:=by rw [hs.gn]
  rcases flat_src hsrc hall with ⟨rfl,A2,c,hey⟩ | ⟨hne,b,q,c,news,hey,hl,hcell,h1,hrel⟩
  ·refine hrun _ κ.w (by rw [hyx',hey];exact run_app_none κ.w hu hit _ A2 _ _ c (by omega)) ?_
   obtain ⟨q1,q2⟩:=hs1.add (BelowD.refl _ _) s1 (.rows (T e).size (es ++ []) false) ⟨some b0,cap,(T e).size,n⟩ (fun b hb=> by injection hb with hb;subst hb;exact hfree) rfl
    (fun hle=> ⟨by simp [hlen'],fun e' he'=> e2 e' (by simpa using he'),Or.inr ⟨b0,tt,cur,rfl,rfl,hh,hlc,hcm,hcs,fun i j e' x' h1 h2=> let ⟨u,h3,h4⟩:=hra i j e' x' (by simpa using h1) h2;⟨u,h3,hle.relD h4⟩⟩⟩)
   refine ⟨κ.put s1 ⟨some b0,cap,(T e).size,n⟩ κ.w,rfl,q1,q2,_,rfl,?_⟩
   have:=hv (κ.put s1 ⟨some b0,cap,(T e).size,n⟩ κ.w) b0 cap (by rw [←hgn,Cx.put_gn];exact Nat.le_refl _) (by rw [←hgn,Cx.put_new];rfl)
   simpa using this
  ·have hlen:0 < xs.length:=List.length_pos_iff.2 hne
   by_cases hroom:n + xs.length≤cap
   ·have hfit:n * it.size + news.length≤cur.size:=by
     rw [hl,hcs,hsz,←Nat.add_mul]
     exact Nat.mul_le_mul_right _ hroom
    refine hrun _ _ (by rw [hyx',hey];exact run_app_room κ.w hu hit hh (by rw [hsz];exact hl) hcell h1 hroom hfit) ?_
    rw [hsz] at hfit ⊢
    obtain ⟨u1,u2⟩:=hs1.upd (w':=κ.w.setRow b0 (over cur.toList (n * (T e).size) news).toArray) hfree (Nat.le_refl _) rfl rfl rfl (setRow_size _ _ _) (fun k hk=> setRow_other _ _ _ _ hk)
    have hfree':Free w0 m1 {κ with w:=κ.w.setRow b0 (over cur.toList (n * (T e).size) news).toArray} b0:=⟨hfree.1,by show _ < (κ.w.setRow _ _).heap.size;rw [setRow_size];exact hfree.2.1,hfree.2.2.1,hfree.2.2.2⟩
    obtain ⟨q1,q2⟩:=u1.add (BelowD.refl _ _) s1 (.rows (T e).size (es ++ xs) false) ⟨some b0,cap,(T e).size,n + xs.length⟩ (fun b hb=> by injection hb with hb;subst hb;exact hfree') rfl
     (fun hle=> ⟨by simp [hlen'],fun e' he'=> by
       rcases List.mem_append.1 he' with h | h
       ·exact e2 e' h
       ·exact hall e' h,
      Or.inr ⟨b0,tt,_,rfl,rfl,setRow_heap _ _ cur _ tt _ hh,hroom,hcm,by
        rw [List.size_toArray,over_length _ _ _ (by simpa using hfit)]
        simpa using hcs,
       app_rows (olds:=cur.toList.take (n * (T e).size)) (news:=news) (rest:=cur.toList.drop (n * (T e).size + news.length)) (by simp;rw [hlen'];omega) (by simp [over])
        (fun i j e' x' h1 h2=> by
         obtain ⟨u,h3,h4⟩:=hra i j e' x' h1 h2
         refine ⟨u,?_,(u2.trans hle).relD h4⟩
         have hi1:i < es.length:=(List.getElem?_eq_some_iff.1 h1).1
         have hj1:j < e'.length:=(List.getElem?_eq_some_iff.1 h2).1
         rw [e2 e' (List.mem_of_getElem? h1)] at hj1
         have:(i + 1) * (T e).size≤n * (T e).size:=Nat.mul_le_mul_right _ (by omega)
         rw [Nat.add_mul] at this
         rw [List.getElem?_take_of_lt (by omega)]
         simpa using h3)
        (fun i j e' x' h1 h2=> let ⟨u,h3,h4⟩:=hrel i j e' x' h1 h2;⟨u,h3,(u2.trans hle).relD h4⟩)⟩⟩)
    refine ⟨_,rfl,q1,u2.trans q2,_,rfl,?_⟩
    exact hv (Cx.put {κ with w:=κ.w.setRow b0 (over cur.toList (n * (T e).size) news).toArray} s1 ⟨some b0,cap,(T e).size,n + xs.length⟩ (κ.w.setRow b0 (over cur.toList (n * (T e).size) news).toArray)) b0 cap (by rw [←hgn,Cx.put_gn {κ with w:=_}];exact Nat.le_refl _) (by rw [←hgn];exact Cx.put_new {κ with w:=_} _ _ _)
   ·have hlo:(cur.toList.take (n * (T e).size)).length=n * (T e).size:=by
     have:n * (T e).size≤cap * (T e).size:=Nat.mul_le_mul_right _ (by omega)
     simp
     omega
    have hold:∀b,some (⟨b0,0,none⟩:Addr)=some b→∀(j:Nat) (u:Value),(cur.toList.take (n * (T e).size))[j]? =some u→κ.w.cell? (b.add j)=some u:=fun b hb j u hu=> by
     injection hb with hb
     subst hb
     rw [List.getElem?_take] at hu
     split at hu
     ·rw [add_eq,Nat.zero_add,cell_of_row _ _ _ cur tt (0,0) hh]
      simpa using hu
     ·cases hu
    have hro:∀(i j:Nat) (e':List D) (x':D),es[i]? =some e'→e'[j]? =some x'→∃u,(cur.toList.take (n * (T e).size))[i * (T e).size + j]? =some u∧RelD κ.S κ.w x' u:=fun i j e' x' h1 h2=> by
     obtain ⟨u,h3,h4⟩:=hra i j e' x' h1 h2
     refine ⟨u,?_,h4⟩
     have hi1:i < es.length:=(List.getElem?_eq_some_iff.1 h1).1
     have hj1:j < e'.length:=(List.getElem?_eq_some_iff.1 h2).1
     rw [e2 e' (List.mem_of_getElem? h1)] at hj1
     have:(i + 1) * (T e).size≤n * (T e).size:=Nat.mul_le_mul_right _ (by omega)
     rw [Nat.add_mul] at this
     rw [List.getElem?_take_of_lt (by omega)]
     simpa using h3
    have:=run_app_grow (ty:=o.type) κ.w hu hit hz (base:=some ⟨b0,0,none⟩) (n:=n) (cap:=cap) (olds:=cur.toList.take (n * (T e).size)) (by rw [hsz];exact hlo) (fun h=> by cases h) hold (ad:=⟨b,q,none⟩) (k:=xs.length) (c:=c) (news:=news) (by rw [hsz];exact hl) hcell (by omega) hlen (by rw [hby];exact hmul _ hbytes) (by omega)
    rw [←hyx',←hey] at this
    refine hrun _ _ this ?_
    generalize hgc:grownCap κ.w (n + xs.length) cap e=gc at *
    have hge:n + xs.length≤gc:=by rw [←hgc];exact grownCap_ge _ _ _ _
    have hgm:gc≤maxLen:=by rw [←hgc];exact grownCap_le_maxLen _ _ _ _ (by simp only [maxLen];omega)
    have hbel:BelowD w0.dr κ.w.heap.size κ.w (κ.w.drew.alloc (.cells ((cur.toList.take (n * (T e).size)).toArray ++ news.toArray ++ Builtin.zeroCells (T e).zero.cells (gc - (n + xs.length))) e)):=((BelowD.refl κ.w.heap.size κ.w).drew).alloc (Nat.le_refl _) _
    obtain ⟨q1,q2⟩:=hs1.add hbel s1 (.rows (T e).size (es ++ xs) false) ⟨some κ.w.heap.size,gc,(T e).size,n + xs.length⟩ (fun b hb=> by injection hb with hb;subst hb;exact hs1.fresh (Nat.le_refl _) (by simp)) rfl
     (fun hle=> ⟨by simp [hlen'],fun e' he'=> by
       rcases List.mem_append.1 he' with h | h
       ·exact e2 e' h
       ·exact hall e' h,
      Or.inr ⟨κ.w.heap.size,e,_,rfl,rfl,heap_alloc_new κ.w.drew _,hge,hgm,by
        simp only [Array.size_append,List.size_toArray,zsz,hlo,hl,←Nat.add_mul]
        congr 1
        omega,
       app_rows (rest:=(Builtin.zeroCells (T e).zero.cells (gc - (n + xs.length))).toList) (by rw [hlen'];exact hlo) (by simp) (fun i j e' x' h1 h2=> let ⟨u,h3,h4⟩:=hro i j e' x' h1 h2;⟨u,h3,hle.relD h4⟩) (fun i j e' x' h1 h2=> let ⟨u,h3,h4⟩:=hrel i j e' x' h1 h2;⟨u,h3,hle.relD h4⟩)⟩⟩)
    refine ⟨_,rfl,q1,q2,_,rfl,?_⟩
    exact hv (κ.put s1 ⟨some κ.w.heap.size,gc,(T e).size,n + xs.length⟩ (κ.w.drew.alloc (.cells ((cur.toList.take (n * (T e).size)).toArray ++ news.toArray ++ Builtin.zeroCells (T e).zero.cells (gc - (n + xs.length))) e))) κ.w.heap.size gc (by rw [←hgn,Cx.put_gn];exact Nat.le_refl _) (by rw [←hgn,Cx.put_new])
 have none_:∀(m1:Mem) (s1:Nat) (A':Option Addr) (xs:List (List D)),Sim w0 A m1 κ→Src κ xs (a.eval y)→a.eval x= .slice A' 0 0→(∀c∈xs,c.length=(T e).size)→xs.length≤1000000→
   (∀κ' A c b,m.gen s1 + 1≤κ'.gn s1→(xs= []→κ'.φ s1 (m.gen s1 + 1)=⟨none,0,0,0⟩)→(xs≠ []→A=some ⟨b,0,none⟩∧κ'.φ s1 (m.gen s1 + 1)=⟨some b,c,(T e).size,xs.length⟩)→(xs= []→c=0)→Rel κ' v (.slice A xs.length c))→m1.gen=m.gen→m'=m1.add s1 (.rows (T e).size xs false)→o.wp P a κ.w (fun a' w'=> After w0 A κ o v m' a a' w') Q:=by
  intro m1 s1 A' xs hs1 hsrc hyx hall hbytes hv hgen hm'
  subst hm'
  have hgn:κ.gn s1 + 1=m.gen s1 + 1:=by rw [hs.gn]
  rcases flat_src hsrc hall with ⟨rfl,A2,c,hey⟩ | ⟨hne,b,q,c,news,hey,hl,hcell,h1,hrel⟩
  ·refine hrun (.slice A' 0 0) κ.w (by rw [hyx,hey];exact run_app_none κ.w hu hit A' A2 0 0 c (Nat.le_refl _)) ?_
   obtain ⟨q1,q2⟩:=hs1.add (BelowD.refl _ _) s1 (.rows (T e).size [] false) ⟨none,0,0,0⟩ (fun b hb=> by cases hb) rfl (fun _=> ⟨rfl,fun e he=> by simp at he,Or.inl ⟨rfl,rfl⟩⟩)
   refine ⟨κ.put s1 ⟨none,0,0,0⟩ κ.w,rfl,q1,q2,_,rfl,?_⟩
   exact hv (κ.put s1 ⟨none,0,0,0⟩ κ.w) A' 0 0 (by rw [←hgn,Cx.put_gn];exact Nat.le_refl _) (fun _=> by rw [←hgn,Cx.put_new]) (fun h=> absurd rfl h) (fun _=> rfl)
  ·have hlen:0 < xs.length:=List.length_pos_iff.2 hne
   have:=run_app_grow (ty:=o.type) κ.w hu hit hz (base:=A') (n:=0) (cap:=0) (olds:= []) (by simp) (fun _=> ⟨rfl,rfl⟩) (fun b hb j u hu=> by simp at hu) (ad:=⟨b,q,none⟩) (k:=xs.length) (c:=c) (news:=news) (by rw [hsz];exact hl) hcell (by omega) hlen (by rw [hby];exact hmul _ (by omega)) (by omega)
   rw [←hyx,←hey] at this
   refine hrun _ _ this ?_
   generalize hgc:grownCap κ.w (0 + xs.length) 0 e=gc at *
   have hge:0 + xs.length≤gc:=by rw [←hgc];exact grownCap_ge _ _ _ _
   have hgm:gc≤maxLen:=by rw [←hgc];exact grownCap_le_maxLen _ _ _ _ (by simp only [maxLen];omega)
   have hbel:BelowD w0.dr κ.w.heap.size κ.w (κ.w.drew.alloc (.cells (([]:List Value).toArray ++ news.toArray ++ Builtin.zeroCells (T e).zero.cells (gc - (0 + xs.length))) e)):=((BelowD.refl κ.w.heap.size κ.w).drew).alloc (Nat.le_refl _) _
   obtain ⟨q1,q2⟩:=hs1.add hbel s1 (.rows (T e).size ([] ++ xs) false) ⟨some κ.w.heap.size,gc,(T e).size,xs.length⟩ (fun b hb=> by injection hb with hb;subst hb;exact hs1.fresh (Nat.le_refl _) (by simp)) rfl
    (fun hle=> ⟨by simp,fun e' he'=> hall e' (by simpa using he'),
     Or.inr ⟨κ.w.heap.size,e,_,rfl,rfl,heap_alloc_new κ.w.drew _,by simpa using hge,hgm,by
       simp only [Array.size_append,List.size_toArray,zsz,hl,List.length_nil,Nat.zero_add] at hge ⊢
       rw [←Nat.add_mul]
       congr 1
       omega,
      app_rows (es:= []) (olds:= []) (news:=news) (rest:=(Builtin.zeroCells (T e).zero.cells (gc - (0 + xs.length))).toList) (by simp) (by simp) (fun i j e' x' h1 h2=> by simp at h1) (fun i j e' x' h1 h2=> let ⟨u,h3,h4⟩:=hrel i j e' x' h1 h2;⟨u,h3,hle.relD h4⟩)⟩⟩)
   refine ⟨_,rfl,q1,q2,_,rfl,?_⟩
   have:=hv (κ.put s1 ⟨some κ.w.heap.size,gc,(T e).size,xs.length⟩ (κ.w.drew.alloc (.cells (([]:List Value).toArray ++ news.toArray ++ Builtin.zeroCells (T e).zero.cells (gc - (0 + xs.length))) e))) (some ⟨κ.w.heap.size,0,none⟩) gc κ.w.heap.size (by rw [←hgn,Cx.put_gn];exact Nat.le_refl _) (fun h=> absurd h hne) (fun _=> ⟨rfl,by rw [←hgn,Cx.put_new]⟩) (fun h=> absurd h hne)
   simpa using this
 rcases h with ⟨hx,h⟩ | ⟨s1,g,n,hx,h⟩ | ⟨s1,g,n,hx,h⟩
 ·obtain ⟨xs,hsrc,h⟩:=elemsOf_runs hs (ev_rel he hy) h
  obtain ⟨⟨hall,hbytes⟩,h⟩:=chk_inv h
  cases h with
  | new h=>
   obtain ⟨rfl,rfl⟩:=ret_inv h
   have hr:=ev_rel he hx
   generalize hyx:a.eval x=yx at hr
   cases hr with
   | nl A'=>
    rcases flat_src hsrc hall with ⟨rfl,A2,c,hey⟩ | ⟨hne,b,q,c,news,hey,hl,hcell,h1,hrel⟩
    ·refine hrun (.slice A' 0 0) κ.w (by rw [hyx,hey];exact run_app_none κ.w hu hit A' A2 0 0 c (Nat.le_refl _)) ?_
     obtain ⟨q1,q2⟩:=hs.add (BelowD.refl _ _) s (.rows (T e).size [] false) ⟨none,0,0,0⟩ (fun b hb=> by cases hb) rfl (fun _=> ⟨rfl,fun e he=> by simp at he,Or.inl ⟨rfl,rfl⟩⟩)
     refine ⟨κ.put s ⟨none,0,0,0⟩ κ.w,rfl,q1,q2,_,rfl,?_⟩
     rw [←hs.gn]
     exact .row0 A' (by rw [Cx.put_gn];exact Nat.le_refl _) (by rw [Cx.put_new]) (by rw [Cx.put_new])
    ·have hlen:0 < xs.length:=List.length_pos_iff.2 hne
     exact grow m s [] xs A' 0 [] news b q c hs hyx hey (by simp) (fun _=> ⟨rfl,rfl⟩) (fun b hb j u hu=> by simp at hu) hl hcell (by simp;omega) hlen (hmul _ (by simpa using hbytes)) (by simp;omega) (fun e he=> by simp at he) hall (fun i j e' x' h=> by simp at h) hrel (by simp) (by simp)
 ·obtain ⟨xs,hsrc,h⟩:=elemsOf_runs hs (ev_rel he hy) h
  obtain ⟨⟨hall,hbytes⟩,h⟩:=chk_inv h
  cases h with
  | app hi h=>
   rename_i es
   obtain ⟨rfl,rfl⟩:=ret_inv h
   have hr:=ev_rel he hx
   generalize hyx:a.eval x=yx at hr
   obtain ⟨e1,e2,h3⟩:=hs.ok s1 g _ hi
   have hs1:=hs.drop s1 g
   cases hr with
   | row0 A' hg hb hlz=>
    have hes:es= []:=List.eq_nil_of_length_eq_zero (by omega)
    subst hes
    rcases flat_src hsrc hall with ⟨rfl,A2,c,hey⟩ | ⟨hne,b,q,c,news,hey,hl,hcell,h1,hrel⟩
    ·refine hrun (.slice A' 0 0) κ.w (by rw [hyx,hey];exact run_app_none κ.w hu hit A' A2 0 0 c (Nat.le_refl _)) ?_
     obtain ⟨q1,q2⟩:=hs1.add (BelowD.refl _ _) s1 (.rows (T e).size [] false) ⟨none,0,0,0⟩ (fun b hb=> by cases hb) rfl (fun _=> ⟨rfl,fun e he=> by simp at he,Or.inl ⟨rfl,rfl⟩⟩)
     refine ⟨κ.put s1 ⟨none,0,0,0⟩ κ.w,rfl,q1,q2,_,rfl,?_⟩
     rw [←hs.gn]
     exact .row0 A' (by rw [Cx.put_gn];exact Nat.le_refl _) (by rw [Cx.put_new]) (by rw [Cx.put_new])
    ·have hlen:0 < xs.length:=List.length_pos_iff.2 hne
     exact grow (m.set s1 g none) s1 [] xs A' 0 [] news b q c hs1 hyx hey (by simp) (fun _=> ⟨rfl,rfl⟩) (fun b hb j u hu=> by simp at hu) hl hcell (by simp;omega) hlen (hmul _ (by simpa using hbytes)) (by simp;omega) (fun e he=> by simp at he) hall (fun i j e' x' h=> by simp at h) hrel (by simp [Mem.set]) rfl
   | @row _ _ b0 hg hb=>
    rcases h3 with ⟨h4,_⟩ | ⟨b',tt,cur,hb',hzz,hh,hlc,hcm,hcs,hra⟩
    ·rw [h4] at hb;cases hb
    ·rw [hb] at hb'
     injection hb' with hb'
     subst hb'
     have hfree:Free w0 (m.set s1 g none) κ b0:=by
      refine ⟨(hs.own s1 g _ b0 hi hb).1,(hs.own s1 g _ b0 hi hb).2,hs.notS s1 g _ b0 hi hb rfl,fun x' y' i' hi' eb=> ?_⟩
      rw [setAt] at hi'
      split at hi'
      ·cases hi'
      ·rename_i hne
       have:=hs.sep s1 g _ x' y' i' b0 hi hi' hb eb rfl
       exact hne ⟨this.1.symm,this.2.symm⟩
     have hlen':es.length=(κ.φ s1 g).len:=e1
     have hyx':a.eval x= .slice (some ⟨b0,0,none⟩) es.length (κ.φ s1 g).cap:=by rw [hyx,hlen']
     rcases flat_src hsrc hall with ⟨rfl,A2,c,hey⟩ | ⟨hne,b,q,c,news,hey,hl,hcell,h1,hrel⟩
     ·refine hrun _ κ.w (by rw [hyx',hey];exact run_app_none κ.w hu hit _ A2 _ _ c (by omega)) ?_
      obtain ⟨q1,q2⟩:=hs1.add (BelowD.refl _ _) s1 (.rows (T e).size (es ++ []) false) ⟨some b0,(κ.φ s1 g).cap,(T e).size,es.length⟩ (fun b hb=> by injection hb with hb;subst hb;exact hfree) rfl
       (fun hle=> ⟨by simp,fun e' he'=> e2 e' (by simpa using he'),Or.inr ⟨b0,tt,cur,rfl,rfl,hh,by rw [hlen'];exact hlc,hcm,hcs,fun i j e' x' h1 h2=> let ⟨u,h3,h4⟩:=hra i j e' x' (by simpa using h1) h2;⟨u,h3,hle.relD h4⟩⟩⟩)
      refine ⟨κ.put s1 ⟨some b0,(κ.φ s1 g).cap,(T e).size,es.length⟩ κ.w,rfl,q1,q2,_,rfl,?_⟩
      show Rel _ (.row s1 (m.gen s1 + 1) _) _
      rw [←hs.gn]
      have:=Rel.row (κ:=κ.put s1 ⟨some b0,(κ.φ s1 g).cap,(T e).size,es.length⟩ κ.w) (s:=s1) (g:=κ.gn s1 + 1) (b:=b0) (by rw [Cx.put_gn];exact Nat.le_refl _) (by rw [Cx.put_new])
      rw [Cx.put_new] at this
      simpa [hlen'] using this
     ·have hlen:0 < xs.length:=List.length_pos_iff.2 hne
      by_cases hroom:es.length + xs.length≤(κ.φ s1 g).cap
      ·have hfit:es.length * it.size + news.length≤cur.size:=by
        rw [hl,hcs,hsz,←Nat.add_mul]
        exact Nat.mul_le_mul_right _ hroom
       refine hrun _ _ (by rw [hyx',hey];exact run_app_room κ.w hu hit hh (by rw [hsz];exact hl) hcell h1 hroom hfit) ?_
       rw [hsz] at hfit ⊢
       obtain ⟨u1,u2⟩:=hs1.upd (w':=κ.w.setRow b0 (over cur.toList (es.length * (T e).size) news).toArray) hfree (Nat.le_refl _) rfl rfl rfl (setRow_size _ _ _) (fun k hk=> setRow_other _ _ _ _ hk)
       have hfree':Free w0 (m.set s1 g none) {κ with w:=κ.w.setRow b0 (over cur.toList (es.length * (T e).size) news).toArray} b0:=⟨hfree.1,by show _ < (κ.w.setRow _ _).heap.size;rw [setRow_size];exact hfree.2.1,hfree.2.2.1,hfree.2.2.2⟩
       obtain ⟨q1,q2⟩:=u1.add (BelowD.refl _ _) s1 (.rows (T e).size (es ++ xs) false) ⟨some b0,(κ.φ s1 g).cap,(T e).size,es.length + xs.length⟩ (fun b hb=> by injection hb with hb;subst hb;exact hfree') rfl
        (fun hle=> ⟨by simp,fun e' he'=> by
          rcases List.mem_append.1 he' with h | h
          ·exact e2 e' h
          ·exact hall e' h,
         Or.inr ⟨b0,tt,_,rfl,rfl,setRow_heap _ _ cur _ tt _ hh,hroom,hcm,by
           rw [List.size_toArray,over_length _ _ _ (by simpa using hfit)]
           simpa using hcs,
          app_rows (olds:=cur.toList.take (es.length * (T e).size)) (news:=news) (rest:=cur.toList.drop (es.length * (T e).size + news.length)) (by simp;omega) (by simp [over])
           (fun i j e' x' h1 h2=> by
            obtain ⟨u,h3,h4⟩:=hra i j e' x' h1 h2
            refine ⟨u,?_,(u2.trans hle).relD h4⟩
            have hi1:i < es.length:=(List.getElem?_eq_some_iff.1 h1).1
            have hj1:j < e'.length:=(List.getElem?_eq_some_iff.1 h2).1
            rw [e2 e' (List.mem_of_getElem? h1)] at hj1
            have:(i + 1) * (T e).size≤es.length * (T e).size:=Nat.mul_le_mul_right _ (by omega)
            rw [Nat.add_mul] at this
            rw [List.getElem?_take_of_lt (by omega)]
            simpa using h3)
           (fun i j e' x' h1 h2=> let ⟨u,h3,h4⟩:=hrel i j e' x' h1 h2;⟨u,h3,(u2.trans hle).relD h4⟩)⟩⟩)
       refine ⟨_,rfl,q1,u2.trans q2,_,rfl,?_⟩
       show Rel _ (.row s1 (m.gen s1 + 1) _) _
       rw [←hs.gn]
       have:=Rel.row (κ:=Cx.put {κ with w:=κ.w.setRow b0 (over cur.toList (es.length * (T e).size) news).toArray} s1 ⟨some b0,(κ.φ s1 g).cap,(T e).size,es.length + xs.length⟩ (κ.w.setRow b0 (over cur.toList (es.length * (T e).size) news).toArray)) (s:=s1) (g:=κ.gn s1 + 1) (b:=b0) (by rw [Cx.put_gn {κ with w:=_}];exact Nat.le_refl _) (by rw [Cx.put_new {κ with w:=_}])
       rw [Cx.put_new {κ with w:=_}] at this
       rw [←hlen']
       exact this
      ·refine grow (m.set s1 g none) s1 es xs _ _ (cur.toList.take (es.length * (T e).size)) news b q c hs1 hyx' hey ?_ (fun h=> by cases h) (fun b hb j u hu=> ?_) hl hcell (by omega) hlen (hmul _ (by omega)) (by omega) e2 hall (fun i j e' x' h1 h2=> ?_) hrel (by rw [hlen'];rfl) rfl
       ·have:es.length * (T e).size≤(κ.φ s1 g).cap * (T e).size:=Nat.mul_le_mul_right _ (by omega)
        simp
        omega
       ·injection hb with hb
        subst hb
        rw [List.getElem?_take] at hu
        split at hu
        ·rw [add_eq,Nat.zero_add,cell_of_row _ _ _ cur tt (0,0) hh]
         simpa using hu
        ·cases hu
       ·obtain ⟨u,h3,h4⟩:=hra i j e' x' h1 h2
        refine ⟨u,?_,h4⟩
        have hi1:i < es.length:=(List.getElem?_eq_some_iff.1 h1).1
        have hj1:j < e'.length:=(List.getElem?_eq_some_iff.1 h2).1
        rw [e2 e' (List.mem_of_getElem? h1)] at hj1
        have:(i + 1) * (T e).size≤es.length * (T e).size:=Nat.mul_le_mul_right _ (by omega)
        rw [Nat.add_mul] at this
        rw [List.getElem?_take_of_lt (by omega)]
        simpa using h3
 ·obtain ⟨xs,hsrc,h⟩:=elemsOf_runs hs (ev_rel he hy) h
  obtain ⟨⟨hall,hbytes⟩,h⟩:=chk_inv h
  cases h with
  | rww hi h=>
   rename_i sz es
   cases h with
   | wr h=>
    generalize hm2:m.set s1 g (some (.rows sz (es.take n) false))=m2 at h
    cases h with
    | app hi2 h=>
     rename_i es2
     obtain ⟨rfl,rfl⟩:=ret_inv h
     subst hm2
     rw [setAt,if_pos ⟨rfl,rfl⟩] at hi2
     injection hi2 with hi2
     injection hi2 with hsz2 hes2 _
     subst hsz2 hes2
     have hmm:(m.set s1 g (some (.rows (T e).size (es.take n) false))).set s1 g none=m.set s1 g none:=by
      have:∀(x y:Nat),((m.set s1 g (some (.rows (T e).size (es.take n) false))).set s1 g none).at_ x y=(m.set s1 g none).at_ x y:=fun x y=> by
       rw [setAt,setAt,setAt]
       split <;> rfl
      show Mem.mk _ _=Mem.mk _ _
      congr 1
      funext x y
      exact this x y
     have hr:=ev_rel he hx
     generalize hyx:a.eval x=yx at hr
     obtain ⟨e1,e2,h3⟩:=hs.ok s1 g _ hi
     have hs1:=hs.drop s1 g
     cases hr with
     | sub0 A' hg hb hlz=>
      have hes:es= []:=List.eq_nil_of_length_eq_zero (by omega)
      subst hes
      refine none_ (m.set s1 g none) s1 A' xs hs1 hsrc hyx hall (by omega) ?_ rfl (by rw [hmm];simp)
      intro κ' A c b k1 k2 k3 k4
      show Rel κ' (.sub s1 (m.gen s1 + 1) 0 (0 + xs.length)) _
      rw [Nat.zero_add]
      by_cases hxs:xs= []
      ·subst hxs
       rw [k4 rfl]
       have:=k2 rfl
       exact .sub0 A k1 (by rw [this]) (by rw [this])
      ·obtain ⟨k5,k6⟩:=k3 hxs
       have:=Rel.sub (κ:=κ') (s:=s1) (g:=m.gen s1 + 1) (o:=0) (n:=xs.length) (b:=b) A k1 (by rw [k6]) (Or.inr (by rw [k5,Nat.zero_mul])) (by rw [k6];exact Nat.le_of_eq (Nat.zero_add _))
       rw [k6] at this
       exact this
     | @sub _ _ _ _ b0 A' hg hb hA hn=>
      rcases h3 with ⟨h4,_⟩ | ⟨b',tt,cur,hb',hzz,hh,hlc,hcm,hcs,hra⟩
      ·rw [h4] at hb;cases hb
      ·rw [hb] at hb'
       injection hb' with hb'
       subst hb'
       rw [Nat.zero_add] at hn
       have hfree:Free w0 (m.set s1 g none) κ b0:=by
        refine ⟨(hs.own s1 g _ b0 hi hb).1,(hs.own s1 g _ b0 hi hb).2,hs.notS s1 g _ b0 hi hb rfl,fun x' y' i' hi' eb=> ?_⟩
        rw [setAt] at hi'
        split at hi'
        ·cases hi'
        ·rename_i hne
         have:=hs.sep s1 g _ x' y' i' b0 hi hi' hb eb rfl
         exact hne ⟨this.1.symm,this.2.symm⟩
       have hlen':es.length=(κ.φ s1 g).len:=e1
       have htk:(es.take n).length=n:=by rw [List.length_take];omega
       have hrel:∀κ' b c,m.gen s1 + 1≤κ'.gn s1→κ'.φ s1 (m.gen s1 + 1)=⟨some b,c,(T e).size,n + xs.length⟩→Rel κ' (.sub s1 (m.gen s1 + 1) 0 (n + xs.length)) (.slice (some ⟨b,0,none⟩) (n + xs.length) c):=by
        intro κ' b c k1 k6
        have:=Rel.sub (κ:=κ') (s:=s1) (g:=m.gen s1 + 1) (o:=0) (n:=n + xs.length) (b:=b) (some ⟨b,0,none⟩) k1 (by rw [k6]) (Or.inr (by rw [Nat.zero_mul])) (by rw [k6];exact Nat.le_of_eq (Nat.zero_add _))
        rw [k6] at this
        exact this
       rcases hA with ⟨hn0,hc0⟩ | hA
       ·subst hn0
        have hcap:(κ.φ s1 g).cap=0:=by omega
        have hes:es= []:=List.eq_nil_of_length_eq_zero (by omega)
        subst hes
        refine none_ (m.set s1 g none) s1 A' xs hs1 hsrc (by rw [hyx,hc0]) hall (by omega) ?_ rfl (by rw [hmm];simp)
        intro κ' A c b k1 k2 k3 k4
        show Rel κ' (.sub s1 (m.gen s1 + 1) 0 (0 + xs.length)) _
        rw [Nat.zero_add]
        by_cases hxs:xs= []
        ·subst hxs
         rw [k4 rfl]
         have:=k2 rfl
         exact .sub0 A k1 (by rw [this]) (by rw [this])
        ·obtain ⟨k5,k6⟩:=k3 hxs
         have:=hrel κ' b c k1 (by rw [k6,Nat.zero_add])
         rw [Nat.zero_add] at this
         rw [k5]
         exact this
       ·refine onto (m.set s1 g none) s1 b0 (κ.φ s1 g).cap n tt cur (es.take n) xs hs1 hfree hsrc (by rw [hyx,hA,Nat.zero_mul,Nat.sub_zero]) htk (fun e' he'=> e2 e' (List.mem_of_mem_take he')) (by omega) hcm hh hcs ?_ hall hbytes hrel rfl (by rw [hmm])
        intro i j e' x' h1 h2
        rw [List.getElem?_take] at h1
        split at h1
        ·exact hra i j e' x' h1 h2
        ·cases h1
theorem buildEs_runs (he:EnvOk κ env a.tmps) (sz n:Nat):∀(parts:List (Nat×Operand)) (i:Nat) (k:List (List D)→Step) (m:Mem) (κ0:Cx) (v:AV) (m':Mem),Sim w0 A m κ0→κ.Le κ0→κ0.w=κ.w→(buildEs sz n i (parts.map fun p=> (p.1,rhoOf env p.2)) k).Runs F m v m'→
  ∃m1 κ1 es xs,Sim w0 A m1 κ1∧κ0.Le κ1∧κ1.w=κ.w∧(k es).Runs F m1 v m'∧i + parts.length=n∧es.length=parts.length∧(∀e∈es,e.length=sz)∧xs.length=parts.length * sz∧
   (∀(i j:Nat) (e:List D) (x:D),es[i]? =some e→e[j]? =some x→∃u,xs[i * sz + j]? =some u∧RelD κ1.S κ1.w x u)∧
   ∀cells:Array Value,cells.size=n * sz→Instr.fill (fun i=> some (i * sz,sz)) cells (parts.map fun p=> (p.1,a.eval p.2))=some (cells.toList.take (i * sz) ++ xs).toArray
 | [],i,k,m,κ0,v,m',hs,hle,hw,h=> by
  simp only [List.map_nil,buildEs] at h
  cases hb:Nat.beq i n
  ·rw [hb] at h;cases h
  ·rw [hb] at h
   have hb:=Nat.eq_of_beq_eq_true hb
   subst hb
   refine ⟨m,κ0,[],[],hs,.refl _,hw,h,by simp,rfl,by simp,by simp,by simp,fun cells hc=> ?_⟩
   simp only [List.map_nil,Instr.fill,List.append_nil]
   rw [List.take_of_length_le (by simp [hc])]
 | (j,x)::parts,i,k,m,κ0,v,m',hs,hle,hw,h=> by
  simp only [List.map_cons] at h
  cases hx:rhoOf env x with
  | none=> rw [hx] at h;cases h
  | some c=>
   rw [hx] at h
   simp only [buildEs] at h
   cases hb:(Nat.beq i j && Nat.beq (cellsOf c).length sz && (cellsOf c).all isOne)
   ·rw [hb] at h;cases h
   ·rw [hb] at h
    simp only [Bool.and_eq_true] at hb
    obtain ⟨⟨h1,h2⟩,h3⟩:=hb
    have h1:=Nat.eq_of_beq_eq_true h1
    have h2:=Nat.eq_of_beq_eq_true h2
    subst h1
    obtain ⟨hcs,hone⟩:=(ev_rel he hx).cells h3
    obtain ⟨m1,κ1,ds,g1,g2,g3,g4,g5⟩:=dataList_runs (cellsOf c) _ m κ0 _ v m' hs (hcs.mono hle) h
    obtain ⟨m2,κ2,es,xs,q1,q2,q3,q4,q5,q6,q7,q8,q9,q10⟩:=buildEs_runs he sz n parts (i + 1) _ m1 κ1 v m' g1 (hle.trans g2) (g3.trans hw) g5
    have hsz:(a.eval x).cells.size=sz:=by have:=hcs.1;simp only [Array.length_toList] at this;omega
    have hds:ds.length=sz:=by rw [g4.1];simpa using hsz
    refine ⟨m2,κ2,ds::es,(a.eval x).cells.toList ++ xs,q1,g2.trans q2,q3,q4,by simp;omega,by simp [q6],fun e he'=> ?_,?_,fun i' j' e y hi' hj'=> ?_,fun cells hc=> ?_⟩
    ·rcases List.mem_cons.1 he' with rfl | he'
     ·exact hds
     ·exact q7 e he'
    ·simp [q8,hsz,Nat.add_mul]
     omega
    ·cases i' with
     | zero=>
      simp at hi'
      subst hi'
      have hj2:j' < sz:=by rw [←hds];exact (List.getElem?_eq_some_iff.1 hj').1
      have hlt:j' < (a.eval x).cells.toList.length:=by simp;omega
      refine ⟨(a.eval x).cells.toList[j'],?_,q2.relD (g4.2 j' y _ hj' (List.getElem?_eq_getElem hlt))⟩
      rw [Nat.zero_mul,Nat.zero_add,List.getElem?_append_left hlt,List.getElem?_eq_getElem hlt]
     | succ i'=>
      obtain ⟨u,hu,hd⟩:=q9 i' j' e y (by simpa using hi') hj'
      refine ⟨u,?_,hd⟩
      rw [List.getElem?_append_right (by simp [hsz,Nat.add_mul];omega)]
      have:(i' + 1) * sz + j' - (a.eval x).cells.toList.length=i' * sz + j':=by simp [hsz,Nat.add_mul];omega
      rw [this]
      exact hu
    ·have hfit:i * sz + sz≤cells.size:=by
      rw [hc]
      have:(i + 1) * sz≤n * sz:=Nat.mul_le_mul_right _ (by omega)
      rw [Nat.add_mul] at this
      omega
     rw [List.map_cons,fill_step _ cells i (a.eval x) _ rfl hsz hfit,q10 _ (by rw [List.size_toArray,over_length _ _ _ (by simp;omega)];simpa using hc)]
     congr 2
     have:(over cells.toList (i * sz) (a.eval x).cells.toList).take ((i + 1) * sz)=cells.toList.take (i * sz) ++ (a.eval x).cells.toList:=by
      unfold over
      rw [List.take_append_of_le_length (by simp [hsz,Nat.add_mul];omega),List.take_of_length_le (by simp [hsz,Nat.add_mul];omega)]
     rw [this,List.append_assoc]
theorem sim_bslice (hT:TOk P T) (hs:Sim w0 A m κ) (he:EnvOk κ env a.tmps) {t e z n s:Nat} {parts:Array (Nat×Operand)} (ho:o.op= .buildSlice t n parts) (hk:(T t).k= .slice e z) (h:(bsliceF (T e) s n (parts.toList.map fun p=> (p.1,rhoOf env p.2))).Runs F m v m'):
  o.wp P a κ.w (fun a' w'=> After w0 A κ o v m' a a' w') Q:=by
 unfold bsliceF at h
 cases hb:((T e).known && Nat.ble (n * (T e).size) 1000000 && Nat.blt 0 (T e).size)
 ·rw [hb] at h;cases h
 ·rw [hb] at h
  simp only [Bool.and_eq_true] at hb
  obtain ⟨⟨hkn,hn⟩,hpos⟩:=hb
  have hn:=Nat.le_of_ble_eq_true hn
  have hpos:0 < (T e).size:=Nat.lt_of_succ_le (Nat.le_of_ble_eq_true hpos)
  have ht:=hT e hkn
  obtain ⟨it,hit,hsz,hby,hz⟩:=ht.info
  obtain ⟨dd,hu,hd,_⟩:=hT.kok hk (by simp)
  have hd:dd=_:=hd
  subst hd
  obtain ⟨m1,κ1,es,xs,q1,q2,q3,q4,q5,q6,q7,q8,q9,q10⟩:=buildEs_runs he (T e).size n parts.toList 0 _ m κ v m' hs (.refl κ) rfl h
  cases q4 with
  | new q4=>
   obtain ⟨rfl,rfl⟩:=ret_inv q4
   have hpl:parts.toList.length=n:=(Nat.zero_add _).symm.trans q5
   have hnl:es.length=n:=q6.trans hpl
   have hrun:(execOp a.eval o).run P κ.w= .ok (.value (.slice (some ⟨κ.w.heap.size,0,none⟩) n n)) (κ.w.alloc (.cells xs.toArray e)):=by
    have hfill:∀(cells:Array Value),cells.size=n * (T e).size→Instr.fill (fun i=> some (i * (T e).size,(T e).size)) cells (parts.map fun p=> (p.1,a.eval p.2)).toList=some xs.toArray:=by
     intro cells hc
     have:=q10 cells hc
     simpa using this
    have hsm:¬(n * (T e).size > 16777216):=by omega
    unfold execOp
    rw [ho]
    by_cases h0:n * (T e).size=0
    ·have:=hfill ((Array.range (n * (T e).size)).map (#[][· % (#[]:Array Value).size]!)) (by simp)
     simp [Instr.buildSlice,run_underlying hu,sizeOf,typeInfo,hit,hsz,h0] at this ⊢
     rw [this]
     rfl
    ·have:=hfill ((Array.range (n * (T e).size)).map ((T e).zero.cells[· % (T e).zero.cells.size]!)) (by simp)
     simp [Instr.buildSlice,run_underlying hu,sizeOf,typeInfo,hit,hsz,h0,hsm,zeroValue,hz] at this ⊢
     rw [this]
     rfl
   refine wp_val hrun ?_
   have hw:κ1.w=κ.w:=q3
   obtain ⟨r1,r2⟩:=q1.add (belowD_alloc κ1.w (.cells xs.toArray e)) s (.rows (T e).size es false) ⟨some κ1.w.heap.size,n,(T e).size,n⟩ (fun b hb=> by injection hb with hb;subst hb;exact q1.fresh (Nat.le_refl _) (by simp)) rfl
    (fun hle=> ⟨hnl,q7,Or.inr ⟨_,e,xs.toArray,rfl,rfl,heap_alloc_new _ _,Nat.le_refl _,by
      have:n≤n * (T e).size:=Nat.le_mul_of_pos_right _ hpos
      simp only [maxLen];omega,by rw [List.size_toArray,q8,hpl],fun i j e' x' h1 h2=> let ⟨u,h3,h4⟩:=q9 i j e' x' h1 h2;⟨u,by simpa using h3,hle.relD h4⟩⟩⟩)
   refine ⟨_,by show κ1.w.alloc _=_;rw [hw],r1,q2.trans r2,_,rfl,?_⟩
   rw [←q1.gn,←hw]
   have:=Rel.row (κ:=κ1.put s ⟨some κ1.w.heap.size,n,(T e).size,n⟩ (κ1.w.alloc (.cells xs.toArray e))) (s:=s) (g:=κ1.gn s + 1) (b:=κ1.w.heap.size) (by rw [Cx.put_gn];exact Nat.le_refl _) (by rw [Cx.put_new])
   rw [Cx.put_new] at this
   exact this
end
end Go.Proofs.YtiklglcjecopcaaGreatDoor
