/-
  Evaluation of Go code on plain data: maps of the call's own. Over any program.
-/
import Derived.Test.YtlgadmholjaljaaEvK2
import Derived.MapKept
namespace Go.Proofs.Ytlgadmholjaljaa
open Go.RowKit Go.MapKept
theorem ckHas_key {P : Program} {k : TK} {ck : CK} {d : TypeDesc} (hck : ckOf k = some ck) (hd : KOk P k d) {v : Value} (hv : ckHas ck v = true) : IsKey d v := by
  cases k <;> simp only [ckOf] at hck <;> first | (cases hck; done) | skip
  all_goals
    injection hck with hck
    subst hck
    have hd : d = _ := hd
    subst hd
    cases v <;> simp_all [ckHas, IsKey]
theorem ckSame_eq {c d : CK} (h : ckSame c d = true) : c = d := by
  cases c <;> cases d <;> simp_all [ckSame]
theorem keyEq_iff {ck : CK} {a b : Value} (ha : ckHas ck a = true) (hb : ckHas ck b = true) : keyEq a b = true ↔ a = b := by
  cases ck <;> cases a <;> cases b <;> simp_all [ckHas, keyEq, bytes_beq]
theorem findNow_get {P : Program} {k : TK} {ck : CK} {d : TypeDesc} (hck : ckOf k = some ck) (hd : KOk P k d) {kv : Value} (hkv : ckHas ck kv = true) (v : D) : ∀ (l : List MapEntry) (es : List (Value × D)) (i : Nat), l.length = es.length →
    (∀ (j : Nat) (p : Value × D) (e : MapEntry), es[j]? = some p → l[j]? = some e → e.key = p.1 ∧ ckHas ck p.1 = true) →
    (Instr.findNow d kv l i = some none ∧ mget kv es = none ∧ mput kv v es = es ++ [(kv, v)] ∧ mdel kv es = es ∧ ∀ e ∈ l, e.key ≠ kv) ∨ ∃ j e p, Instr.findNow d kv l i = some (some (i + j, e.val)) ∧ l[j]? = some e ∧ es[j]? = some p ∧ e.key = kv ∧ mget kv es = some p.2 ∧ mput kv v es = es.set j (kv, v) ∧ mdel kv es = es.eraseIdx j
  | [], es, i, hl, _ => by
    have : es = [] := List.eq_nil_of_length_eq_zero (by rw [← hl]; rfl)
    subst this
    exact Or.inl ⟨rfl, rfl, rfl, rfl, by simp⟩
  | e :: l, [], i, hl, _ => by simp at hl
  | e :: l, p :: es, i, hl, h => by
    obtain ⟨h1, h2⟩ := h 0 p e rfl rfl
    obtain ⟨r, hr, hri⟩ := sameNow_of_keys (ckHas_key hck hd hkv) (ckHas_key hck hd h2)
    rw [← h1] at hr hri
    have hke := keyEq_iff hkv h2
    rw [← h1] at hke
    cases r with
    | true =>
      have hk := hri.1 rfl
      have hq : keyEq kv p.1 = true := by rw [← h1]; exact hke.2 hk
      refine Or.inr ⟨0, e, p, ?_, rfl, rfl, hk.symm, ?_, ?_, ?_⟩
      · simp only [Instr.findNow, hr, Nat.add_zero]
      · simp only [mget, hq, cond_true]
      · simp only [mput, hq, cond_true, List.set_cons_zero]
      · simp only [mdel, hq, cond_true, List.eraseIdx_cons_zero]
    | false =>
      have hq : keyEq kv p.1 = false := by
        rw [Bool.eq_false_iff]
        intro hq
        rw [← h1] at hq
        have := hri.2 (hke.1 hq)
        cases this
      have ih := findNow_get hck hd hkv v l es (i + 1) (by simpa using hl) (fun j p' e' hp he => h (j + 1) p' e' (by simpa using hp) (by simpa using he))
      rcases ih with ⟨q1, q2, q3, q7, q8⟩ | ⟨j, e', p', q1, q2, q3, q4, q5, q6, q7⟩
      · refine Or.inl ⟨?_, ?_, ?_, ?_, ?_⟩
        · simp only [Instr.findNow, hr]; exact q1
        · simp only [mget, hq, cond_false]; exact q2
        · simp only [mput, hq, cond_false, q3, List.cons_append]
        · simp only [mdel, hq, cond_false, q7]
        · intro x hx
          rcases List.mem_cons.1 hx with rfl | hx
          · intro e0
            have := hri.2 e0.symm
            cases this
          · exact q8 x hx
      · refine Or.inr ⟨j + 1, e', p', ?_, by simpa using q2, by simpa using q3, q4, ?_, ?_, ?_⟩
        · simp only [Instr.findNow, hr]; rw [q1, Nat.add_assoc, Nat.add_comm 1 j]
        · simp only [mget, hq, cond_false]; exact q5
        · simp only [mput, hq, cond_false, q6, List.set_cons_succ]
        · simp only [mdel, hq, cond_false, q7, List.eraseIdx_cons_succ]
theorem zero1_rel {S : Nat → Prop} {w : World} {x : Value} {z : D} (h : zero1 x = some z) : RelD S w z x := by
  unfold zero1 at h
  split at h
  · injection h with h
    subst h
    exact .fz0 _ _ fun _ => rfl
  · cases h
  · cases h
  · cases ho : x.oneCell'
    · rw [ho] at h; cases h
    · rw [ho] at h
      injection h with h
      subst h
      exact .v _ ho
theorem zeroC_rel {S : Nat → Prop} {w : World} : ∀ (vs : List Value) (ds : List D), zeroC vs = some ds → vs.length = ds.length ∧ ∀ (j : Nat) (x : D) (y : Value), ds[j]? = some x → vs[j]? = some y → RelD S w x y
  | [], ds, h => by
    injection h with h
    subst h
    exact ⟨rfl, fun j x y hx => by simp at hx⟩
  | v :: vs, ds, h => by
    unfold zeroC at h
    split at h
    · rename_i d ds' h1 h2
      injection h with h
      subst h
      obtain ⟨q1, q2⟩ := zeroC_rel vs ds' h2
      refine ⟨by simp [q1], fun j x y hx hy => ?_⟩
      cases j with
      | zero =>
        simp at hx hy
        subst hx hy
        exact zero1_rel h1
      | succ j => exact q2 j x y (by simpa using hx) (by simpa using hy)
    · cases h
theorem zeroO_rel {S : Nat → Prop} {w : World} {te : TI} {z : D} (h : zeroO te = some z) : RelE S w z te.zero := by
  unfold zeroO at h
  split at h
  · rename_i cs hz
    cases hq : zeroC cs.toList with
    | none => rw [hq] at h; cases h
    | some ds =>
      rw [hq] at h
      injection h with h
      subst h
      obtain ⟨q1, q2⟩ := zeroC_rel (S := S) (w := w) _ _ hq
      rw [hz]
      exact ⟨cs, rfl, by simpa using q1, fun j x y hx hy => q2 j x y hx (by simpa using hy)⟩
  · exact .of (zero1_rel h)
theorem elemD_runs {F : FuncId → List AV → AV → Prop} {w0 : Start} {A : Nat → Prop} {x : AV} {k : D → Step} {m : Mem} {κ : Cx} {u : Value} {v : AV} {m' : Mem} (hs : Sim w0 A m κ) (hu : Rel κ x u) (h : (elemD x k).Runs F m v m') :
    ∃ m1 κ1 y, Sim w0 A m1 κ1 ∧ κ.Le κ1 ∧ κ1.w = κ.w ∧ RelE κ1.S κ1.w y u ∧ (k y).Runs F m1 v m' := by
  by_cases hc : ∃ cs, x = .agg cs
  · obtain ⟨cs, rfl⟩ := hc
    obtain ⟨us, rfl, hus⟩ := hu.agg_inv
    obtain ⟨m1, κ1, ds, g1, g2, g3, ⟨g4, g5⟩, g6⟩ := dataList_runs cs _ m κ us.toList v m' hs hus h
    exact ⟨m1, κ1, .ag ds, g1, g2, g3, ⟨us, rfl, by simpa using g4.symm, fun j x y hx hy => g5 j x y hx (by simpa using hy)⟩, g6⟩
  · have h' : (dataOf x k).Runs F m v m' := by
      cases x <;> first | exact h | exact absurd ⟨_, rfl⟩ hc
    obtain ⟨m1, κ1, y, g1, g2, g3, g4, g5⟩ := dataOf_runs hs hu h'
    exact ⟨m1, κ1, y, g1, g2, g3, .of g4, g5⟩
section
variable {P : Program} {T : Nat → TI} {F : FuncId → List AV → AV → Prop} {w0 : Start} {A : Nat → Prop} {o : Oper} {a : Act} {κ : Cx} {m m' : Mem} {v : AV} {Q : Exit → Act → World → Prop} {env : Nat → Option AV}
theorem sim_mkmap (_hT : TOk P T) (hs : Sim w0 A m κ) {t s : Nat} (ho : o.op = .makeMap t none) (h : (mkmapF T (T t).k s).Runs F m v m') : o.wp P a κ.w (fun a' w' => After w0 A κ o v m' a a' w') Q := by
  generalize hk : (T t).k = k at h
  unfold mkmapF at h
  split at h
  · rename_i kt et
    split at h
    · rename_i ck hck
      cases h with
      | new h =>
        obtain ⟨rfl, rfl⟩ := ret_inv h
        have hrun : (execOp a.eval o).run P κ.w = .ok (.value (.map (some κ.w.heap.size))) (κ.w.alloc (.map #[] 0)) := by
          unfold execOp
          rw [ho]
          simp [Instr.makeMap, newObj, Sem.run, Result.andThen]
        have hgn : m.gen s + 1 = κ.gn s + 1 := by rw [hs.gn]
        obtain ⟨q1, q2⟩ := hs.add (belowD_alloc κ.w (.map #[] 0)) s (.mapi ck []) ⟨some κ.w.heap.size, 0, 0, 0⟩ (fun b hb => by injection hb with hb; subst hb; exact hs.fresh (Nat.le_refl _) (by simp)) rfl
          (fun hle => ⟨_, #[], 0, rfl, (heap_alloc κ.w _).1, ⟨rfl, fun j p e hp => by simp at hp⟩, stamped_empty 0⟩)
        refine wp_val hrun ⟨_, rfl, q1, q2, _, rfl, ?_⟩
        rw [hgn]
        exact .mp (by rw [Cx.put_gn]; exact Nat.le_refl _) (by rw [Cx.put_new])
    · cases h
  · cases h
theorem MapAt.list {ck : CK} {ents : Array MapEntry} {es : List (Value × D)} (h : MapAt κ ck ents es) : ents.toList.length = es.length ∧ ∀ (j : Nat) (p : Value × D) (e : MapEntry), es[j]? = some p → ents.toList[j]? = some e → e.key = p.1 ∧ ckHas ck p.1 = true :=
  ⟨by simpa using h.1, fun j p e hp he => ⟨(h.2 j p e hp (by simpa using he)).1, (h.2 j p e hp (by simpa using he)).2.2⟩⟩
theorem sim_lookup (hT : TOk P T) (hs : Sim w0 A m κ) (he : EnvOk κ env a.tmps) {t : Nat} {x ix : Operand} {ok : Bool} (ho : o.op = .lookup t x ix ok) (h : (lookupF T (T t).k ok (rhoOf env x) (rhoOf env ix)).Runs F m v m') :
    o.wp P a κ.w (fun a' w' => After w0 A κ o v m' a a' w') Q := by
  generalize hk : (T t).k = k at h
  generalize hx : rhoOf env x = cx at h
  generalize hix : rhoOf env ix = cix at h
  have hmap : ∀ (kt et : Nat) (ck : CK) (z : D) (kv : Value) (es : List (Value × D)) (b : Nat) (ents : Array MapEntry) (clock : Nat), k = .map kt et → cix = some (.d (.v kv)) → ckOf (T kt).k = some ck → zeroO (T et) = some z → ((T et).known && ckHas ck kv) = true → a.eval x = .map (some b) → κ.w.heap[b]? = some (.map ents clock) → MapAt κ ck ents es → v = mres ok (mget kv es) z → m' = m →
      o.wp P a κ.w (fun a' w' => After w0 A κ o v m' a a' w') Q := by
    rintro kt et ck z kv es b ents clock rfl hcix hck hz hb hev hh hm rfl rfl
    rw [hcix] at hix
    rw [Bool.and_eq_true] at hb
    obtain ⟨d0, hu0, hd0⟩ := hT.kok hk (by simp)
    have hd0 : d0 = .map kt et := hd0
    subst hd0
    obtain ⟨d, hu, hd⟩ := hT.kok (t := kt) rfl (by intro e; rw [e] at hck; cases hck)
    obtain ⟨ei, hei, _, _, hez⟩ := (hT et hb.1).info
    have hkv := (ev_rel he hix).val
    have hzr : ∀ {S : Nat → Prop}, RelE S κ.w z (T et).zero := zeroO_rel hz
    have hkk := ckHas_key hck hd hb.2
    have fin : ∀ (u : Value) (r : Bool) (dd : D), (Instr.lookup t (.map (some b)) kv ok).run P κ.w = .ok (if ok then .tuple #[u, .bool r] else u) κ.w → RelE κ.S κ.w dd u → mres ok (mget kv es) z = (bif ok then .tup [mcell dd, B r] else mcell dd) → o.wp P a κ.w (fun a' w' => After w0 A κ o (mres ok (mget kv es) z) m' a a' w') Q := by
      intro u r dd hrun hr hv
      refine fin_val hs (x := if ok then .tuple #[u, .bool r] else u) ?_ ?_
      · unfold execOp
        rw [ho]
        simp only [hev, hkv, Sem.run_bind, hrun, Result.andThen_ok]
        rfl
      · rw [hv]
        cases ok
        · exact .ofE hr
        · refine .tup rfl fun j c y hc hy => ?_
          match j, hc, hy with
          | 0, hc, hy =>
            simp at hc hy
            subst hc hy
            exact .ofE hr
          | 1, hc, hy =>
            simp at hc hy
            subst hc hy
            exact relv κ _
          | j + 2, hc, hy => simp at hc
    rcases findNow_get hck hd hb.2 z ents.toList es 0 hm.list.1 hm.list.2 with ⟨q1, q2, _⟩ | ⟨j, e, p, q1, q2, q3, q4, q5, _⟩
    · refine fin (T et).zero false z ?_ hzr (by rw [q2]; rfl)
      simp [Instr.lookup, run_underlying hu0, MapKept.run_getObj_map hh, MapKept.run_checkKey hu hkk, MapKept.run_findKey hu q1, zeroValue, typeInfo, hei, hez, Result.andThen]
    · refine fin e.val true p.2 ?_ (hm.2 j p e q3 (by simpa using q2)).2.1 (by rw [q5]; rfl)
      simp [Instr.lookup, run_underlying hu0, MapKept.run_getObj_map hh, MapKept.run_checkKey hu hkk, MapKept.run_findKey hu q1, Result.andThen]
  unfold lookupF at h
  split at h
  · rename_i kt et s g kv
    split at h
    · rename_i ck z hck hz
      cases hb : (T et).known && ckHas ck kv
      · rw [hb] at h; cases h
      rw [hb] at h
      simp only [cond_true] at h
      cases h with
      | rdm hi h =>
        rename_i ck' es
        dsimp only at h
        cases hsm : ckSame ck ck'
        · rw [hsm] at h; cases h
        rw [hsm] at h
        have hsm := ckSame_eq hsm
        subst hsm
        obtain ⟨rfl, rfl⟩ := ret_inv h
        obtain ⟨b, ents, clock, hev, hbk, hh, hm, _⟩ := map_block hs hi (ev_rel he hx)
        exact hmap kt et ck z kv es b ents clock rfl rfl hck hz hb hev hh hm rfl rfl
    · cases h
  · rename_i kt et ck' es kv
    split at h
    · rename_i ck z hck hz
      cases hb : (T et).known && ckHas ck kv && ckSame ck ck'
      · rw [hb] at h; cases h
      rw [hb] at h
      rw [Bool.and_eq_true] at hb
      have hsm := ckSame_eq hb.2
      subst hsm
      obtain ⟨rfl, rfl⟩ := ret_inv h
      have hr := ev_rel he hx
      generalize hu : a.eval x = u at hr
      cases hr with
      | d hr =>
        obtain ⟨b, ents, clock, rfl, hbS, hh, hm, _⟩ := hr.map_inv
        exact hmap kt et ck z kv es b ents clock rfl rfl hck hz hb.1 hu hh hm rfl rfl
    · cases h
  · cases h
theorem sim_mupd (hT : TOk P T) (hs : Sim w0 A m κ) (he : EnvOk κ env a.tmps) {t : Nat} {x ix y : Operand} (ho : o.op = .mapUpdate t x ix y ∨ o.op = .insert t x ix y) (h : (mupdF T (T t).k (rhoOf env x) (rhoOf env ix) (rhoOf env y)).Runs F m v m') :
    o.wp P a κ.w (fun a' w' => After w0 A κ o v m' a a' w') Q := by
  generalize hk : (T t).k = k at h
  generalize hx : rhoOf env x = cx at h
  generalize hix : rhoOf env ix = cix at h
  generalize hy : rhoOf env y = cy at h
  unfold mupdF at h
  split at h
  · rename_i kt et s g kv yv
    split at h
    · rename_i ck hck
      cases hb : ckHas ck kv
      · rw [hb] at h; cases h
      rw [hb] at h
      simp only [cond_true] at h
      obtain ⟨m1, κ1, dd, g1, g2, g3, g4, h⟩ := elemD_runs hs (ev_rel he hy) h
      cases h with
      | rdm hi h =>
        rename_i ck' es
        dsimp only at h
        cases hsm : ckSame ck ck'
        · rw [hsm] at h; cases h
        rw [hsm] at h
        have hsm := ckSame_eq hsm
        subst hsm
        simp only [cond_true] at h
        cases h with
        | wr h =>
          obtain ⟨rfl, rfl⟩ := ret_inv h
          obtain ⟨d0, hu0, hd0⟩ := hT.kok hk (by simp)
          have hd0 : d0 = .map kt et := hd0
          subst hd0
          obtain ⟨d, hu, hd⟩ := hT.kok (t := kt) rfl (by intro e; rw [e] at hck; cases hck)
          obtain ⟨b, ents, clock, hev, hbk, hh, hm, hst⟩ := map_block g1 hi ((ev_rel he hx).mono g2)
          have hkv := (ev_rel he hix).val
          have hkk := ckHas_key hck hd hb
          rw [g3] at hh
          have fin : ∀ (ents' : Array MapEntry) (clock' : Nat) (es' : List (Value × D)), (Instr.mapUpdate t (.map (some b)) kv (a.eval y)).run P κ.w = .ok () { κ.w with heap := κ.w.heap.setIfInBounds b (.map ents' clock') } →
              ents'.size = es'.length → (∀ (j : Nat) (p : Value × D) (e : MapEntry), es'[j]? = some p → ents'[j]? = some e → (e.key = p.1 ∧ ckHas ck p.1 = true) ∧ RelE κ1.S κ1.w p.2 e.val) → Stamped ents' clock' → mput kv dd es = es' →
              o.wp P a κ.w (fun a' w' => After w0 A κ o (.tup []) (m1.set s g (some (.mapi ck (mput kv dd es)))) a a' w') Q := by
            intro ents' clock' es' hrun hsz hrel hst' hes
            subst hes
            have hset := heap_set (o' := .map ents' clock') hh
            obtain ⟨t1, t2⟩ := g1.set (i' := .mapi ck (mput kv dd es)) (w' := { κ1.w with heap := κ1.w.heap.setIfInBounds b (.map ents' clock') }) hi rfl rfl (Nat.le_refl _) rfl rfl rfl (by simp) (fun q hq => by
                rw [g3]
                exact hset.2 q fun e => hq (by rw [e]; exact hbk))
              (fun hle => ⟨b, ents', clock', hbk, by rw [g3]; exact hset.1, ⟨hsz, fun j p e hp he' => ⟨(hrel j p e hp he').1.1, hle.relE (hrel j p e hp he').2, (hrel j p e hp he').1.2⟩⟩, hst'⟩)
            refine wp_skp (w' := { κ.w with heap := κ.w.heap.setIfInBounds b (.map ents' clock') }) ?_ ⟨_, by rw [← g3], t1, g2.trans t2, undef, rfl, .tup rfl fun j c y h => by simp at h⟩
            rcases ho with ho | ho
            · unfold execOp
              rw [ho]
              simp only [hev, hkv, Sem.run_bind, hrun, Result.andThen_ok]
              rfl
            · unfold execOp
              rw [ho]
              simp only [hev, hkv, Sem.run_bind, hrun, Result.andThen_ok]
              rfl
          rcases findNow_get hck hd hb dd ents.toList es 0 hm.list.1 hm.list.2 with ⟨q1, _, q2, _, q6⟩ | ⟨j, e, p, q1, q2, q3, q4, _, q5, _⟩
          · refine fin (ents.push ⟨kv, a.eval y, clock⟩) (clock + 1) _ ?_ (by simp [hm.1]) (fun j' p' e' hp he' => ?_) (stamped_push hst q6) q2
            · simp [Instr.mapUpdate, run_underlying hu0, MapKept.run_getObj_map hh, MapKept.run_checkKey hu hkk, MapKept.run_findKey hu q1, MapKept.run_setObj_map _ hh, Result.andThen]
            · rw [List.getElem?_append] at hp
              rw [Array.getElem?_push] at he'
              split at hp
              · rename_i hlt
                rw [if_neg (by rw [hm.1]; omega)] at he'
                have := hm.2 j' p' e' hp he'
                exact ⟨⟨this.1, this.2.2⟩, this.2.1⟩
              · rename_i hge
                by_cases hj : j' = es.length
                · subst hj
                  rw [if_pos hm.1.symm] at he'
                  simp at hp he'
                  subst hp he'
                  exact ⟨⟨rfl, hb⟩, g4⟩
                · rw [List.getElem?_eq_none (by simp; omega)] at hp
                  cases hp
          · have hj : ents[j]? = some e := by simpa using q2
            refine fin (ents.modify j fun e => { e with key := kv, val := a.eval y }) clock _ ?_ (by simp [hm.1]) (fun j' p' e' hp he' => ?_) (stamped_modify hst j _ (fun _ _ => rfl) fun e' _ he' => by rw [hj] at he'; injection he' with he'; subst he'; exact q4.symm) q5
            · rw [Nat.zero_add] at q1
              simp [Instr.mapUpdate, run_underlying hu0, MapKept.run_getObj_map hh, MapKept.run_checkKey hu hkk, MapKept.run_findKey hu q1, hj, q4, MapKept.run_keyThatStays hkk, MapKept.run_setObj_map _ hh, Result.andThen]
            · rw [Array.getElem?_modify] at he'
              by_cases hjj : j = j'
              · subst hjj
                rw [if_pos rfl, hj] at he'
                rw [List.getElem?_set_self (List.getElem?_eq_some_iff.1 q3).1] at hp
                simp at hp he'
                subst hp he'
                exact ⟨⟨rfl, hb⟩, g4⟩
              · rw [if_neg hjj] at he'
                rw [List.getElem?_set_ne hjj] at hp
                have := hm.2 j' p' e' hp he'
                exact ⟨⟨this.1, this.2.2⟩, this.2.1⟩
    · cases h
  · cases h
theorem sim_mdel (hT : TOk P T) (hs : Sim w0 A m κ) (he : EnvOk κ env a.tmps) {t t' : Nat} {x ix : Operand} (ho : o.op = .call { callee := .builtin .delete, args := #[x, ix], argTypes := #[t, t'] }) (h : (mdelF T (T t).k (rhoOf env x) (rhoOf env ix)).Runs F m v m') :
    o.wp P a κ.w (fun a' w' => After w0 A κ o v m' a a' w') Q := by
  generalize hk : (T t).k = k at h
  generalize hx : rhoOf env x = cx at h
  generalize hix : rhoOf env ix = cix at h
  unfold mdelF at h
  split at h
  · rename_i kt et s g kv
    split at h
    · rename_i ck hck
      cases hb : ckHas ck kv
      · rw [hb] at h; cases h
      rw [hb] at h
      simp only [cond_true] at h
      cases h with
      | rdm hi h =>
        rename_i ck' es
        dsimp only at h
        cases hsm : ckSame ck ck'
        · rw [hsm] at h; cases h
        rw [hsm] at h
        have hsm := ckSame_eq hsm
        subst hsm
        simp only [cond_true] at h
        cases h with
        | wr h =>
          obtain ⟨rfl, rfl⟩ := ret_inv h
          obtain ⟨d0, hu0, hd0⟩ := hT.kok hk (by simp)
          have hd0 : d0 = .map kt et := hd0
          subst hd0
          obtain ⟨d, hu, hd⟩ := hT.kok (t := kt) rfl (by intro e; rw [e] at hck; cases hck)
          obtain ⟨b, ents, clock, hev, hbk, hh, hm, hst⟩ := map_block hs hi (ev_rel he hx)
          have hkv := (ev_rel he hix).val
          have hkk := ckHas_key hck hd hb
          have fin : ∀ (ents' : Array MapEntry) (es' : List (Value × D)), (Builtin.delete_ #[t, t'] o.type #[.map (some b), kv]).run P κ.w = .ok (.tuple #[]) { κ.w with heap := κ.w.heap.setIfInBounds b (.map ents' clock) } →
              ents'.size = es'.length → (∀ (j : Nat) (p : Value × D) (e : MapEntry), es'[j]? = some p → ents'[j]? = some e → (e.key = p.1 ∧ ckHas ck p.1 = true) ∧ RelE κ.S κ.w p.2 e.val) → Stamped ents' clock → mdel kv es = es' →
              o.wp P a κ.w (fun a' w' => After w0 A κ o (.tup []) (m.set s g (some (.mapi ck (mdel kv es)))) a a' w') Q := by
            intro ents' es' hrun hsz hrel hst' hes
            subst hes
            have hset := heap_set (o' := .map ents' clock) hh
            obtain ⟨t1, t2⟩ := hs.set (i' := .mapi ck (mdel kv es)) (w' := { κ.w with heap := κ.w.heap.setIfInBounds b (.map ents' clock) }) hi rfl rfl (Nat.le_refl _) rfl rfl rfl (by simp) (fun q hq => hset.2 q fun e => hq (by rw [e]; exact hbk))
              (fun hle => ⟨b, ents', clock, hbk, hset.1, ⟨hsz, fun j p e hp he' => ⟨(hrel j p e hp he').1.1, hle.relE (hrel j p e hp he').2, (hrel j p e hp he').1.2⟩⟩, hst'⟩)
            refine wp_val (w' := { κ.w with heap := κ.w.heap.setIfInBounds b (.map ents' clock) }) ?_ ⟨_, rfl, t1, t2, .tuple #[], rfl, .tup rfl fun j c y h => by simp at h⟩
            unfold execOp
            rw [ho]
            simp only [resolve, List.map_toArray, List.map_cons, List.map_nil, Sem.run_bind, Sem.run_pure, Result.andThen_ok, invoke, builtin, hev, hkv, hrun]
          rcases findNow_get hck hd hb (.v kv) ents.toList es 0 hm.list.1 hm.list.2 with ⟨q1, _, _, q2, _⟩ | ⟨j, e, p, q1, q2, q3, _, _, _, q5⟩
          · refine fin ents _ ?_ hm.1 (fun j' p' e' hp he' => ?_) hst q2
            · simp [Builtin.delete_, run_underlying hu0, MapKept.run_getObj_map hh, MapKept.run_checkKey hu hkk, MapKept.run_findKey hu q1, MapKept.run_setObj_map _ hh, Result.andThen]
            · have := hm.2 j' p' e' hp he'
              exact ⟨⟨this.1, this.2.2⟩, this.2.1⟩
          · have hj : ents[j]? = some e := by simpa using q2
            have hlt : j < ents.size := (Array.getElem?_eq_some_iff.1 hj).1
            have hel : (ents.eraseIdxIfInBounds j).toList = ents.toList.eraseIdx j := by
              unfold Array.eraseIdxIfInBounds
              rw [dif_pos hlt, Array.toList_eraseIdx]
            have hze : (ents.eraseIdxIfInBounds j).size = (es.eraseIdx j).length := by
              rw [← Array.length_toList, hel, List.length_eraseIdx, List.length_eraseIdx, hm.list.1]
            refine fin (ents.eraseIdxIfInBounds j) _ ?_ hze (fun j' p' e' hp he' => ?_) (stamped_erase hst j) q5
            · rw [Nat.zero_add] at q1
              simp [Builtin.delete_, run_underlying hu0, MapKept.run_getObj_map hh, MapKept.run_checkKey hu hkk, MapKept.run_findKey hu q1, MapKept.run_setObj_map _ hh, Result.andThen]
            · rw [← Array.getElem?_toList, hel] at he'
              rw [List.getElem?_eraseIdx] at hp he'
              split at hp
              · rename_i hlt'
                rw [if_pos hlt'] at he'
                have := hm.2 j' p' e' hp (by simpa using he')
                exact ⟨⟨this.1, this.2.2⟩, this.2.1⟩
              · rename_i hlt'
                rw [if_neg hlt'] at he'
                have := hm.2 (j' + 1) p' e' hp (by simpa using he')
                exact ⟨⟨this.1, this.2.2⟩, this.2.1⟩
    · cases h
  · cases h
end
end Go.Proofs.Ytlgadmholjaljaa
