/-
  Evaluation of Go code on plain data: make and copy. Over any program.
-/
import Derived.Test.YtlgadmholjaljaaEvK
import Derived.Laws.MakeOwn
namespace Go.Proofs.Ytlgadmholjaljaa
open Go.RowKit
theorem datasZ_get {κ : Cx} : ∀ {cs : List AV} {ds : List D} {vs : List Value}, datasZ cs = some ds → RelL κ cs vs → ds.length = vs.length ∧ ∀ (j : Nat) (x : D) (u : Value), ds[j]? = some x → vs[j]? = some u → RelD κ.S κ.w x u
  | [], ds, vs, h, hr => by
    injection h with h
    subst h
    rw [hr.nil_inv]
    exact ⟨rfl, fun j x u h => by simp at h⟩
  | c :: cs, ds, vs, h, hr => by
    obtain ⟨v, vs', rfl, h1, h2⟩ := hr.cons_inv
    have go : ∀ (y : D) (l : List D), datasZ cs = some l → RelD κ.S κ.w y v → (y :: l).length = (v :: vs').length ∧ ∀ (j : Nat) (x : D) (u : Value), (y :: l)[j]? = some x → (v :: vs')[j]? = some u → RelD κ.S κ.w x u := by
      intro y l hl hy
      obtain ⟨q1, q2⟩ := datasZ_get hl h2
      refine ⟨by simp [q1], fun j x u hx hu => ?_⟩
      cases j with
      | zero => simp at hx hu; subst hx hu; exact hy
      | succ j => exact q2 j x u (by simpa using hx) (by simpa using hu)
    cases c with
    | d y =>
      simp only [datasZ] at h
      cases hq : datasZ cs with
      | none => rw [hq] at h; cases h
      | some l =>
        rw [hq] at h
        injection h with h
        subst h
        cases h1 with
        | d h1 => exact go y l hq h1
    | nl =>
      simp only [datasZ] at h
      cases hq : datasZ cs with
      | none => rw [hq] at h; cases h
      | some l =>
        rw [hq] at h
        injection h with h
        subst h
        cases h1 with
        | nl A' => exact go _ l hq (.fz0 _ _ fun _ => rfl)
    | _ => cases h
theorem made_get (z : Array Value) (n q : Nat) (h : q < n) : (madeCells z n)[q]? = some (z[q % z.size]!) := by
  simp [madeCells, h]
section
variable {P : Program} {T : Nat → TI} {F : FuncId → List AV → AV → Prop} {w0 : Start} {A : Nat → Prop} {o : Oper} {a : Act} {κ : Cx} {m m' : Mem} {v : AV} {Q : Exit → Act → World → Prop} {env : Nat → Option AV}
theorem sim_makes (hT : TOk P T) (hs : Sim w0 A m κ) (he : EnvOk κ env a.tmps) {t e z s : Nat} {l c : Operand} (ho : o.op = .makeSlice t l c) (hk : (T t).k = .slice e z) (h : (makesF (T e) s (rhoOf env l) (rhoOf env c)).Runs F m v m') :
    o.wp P a κ.w (fun a' w' => After w0 A κ o v m' a a' w') Q := by
  unfold makesF at h
  cases hb : ((T e).known && Nat.blt 0 (T e).size && Nat.ble (T e).size 16 && Nat.ble (T e).bytes 1000)
  · rw [hb] at h; cases h
  · rw [hb] at h
    simp only [Bool.and_eq_true] at hb
    obtain ⟨⟨⟨hkn, hpos⟩, h16⟩, hb1000⟩ := hb
    have hpos : 0 < (T e).size := Nat.lt_of_succ_le (Nat.le_of_ble_eq_true hpos)
    have h16 := Nat.le_of_ble_eq_true h16
    have hb1000 := Nat.le_of_ble_eq_true hb1000
    have ht := hT e hkn
    obtain ⟨it, hit, hsz, hby, hz⟩ := ht.info
    obtain ⟨dd, hu, hd, _⟩ := hT.kok hk (by simp)
    have hd : dd = _ := hd
    subst hd
    generalize hl : rhoOf env l = la at h
    generalize hc : rhoOf env c = ca at h
    generalize hzd : zeroD (T e) = za at h
    simp only [cond_true] at h
    split at h
    · rename_i kl n kc c' zd
      obtain ⟨⟨h0, hnc, hcm⟩, h⟩ := chk_inv h
      cases h with
      | new h =>
        obtain ⟨rfl, rfl⟩ := ret_inv h
        have hlv := (ev_rel he hl).val
        have hcv := (ev_rel he hc).val
        obtain ⟨cn, rfl⟩ := Int.eq_ofNat_of_zero_le (show 0 ≤ c' by omega)
        obtain ⟨nn, rfl⟩ := Int.eq_ofNat_of_zero_le h0
        have hnc' : nn ≤ cn := by omega
        have hcm' : cn ≤ 1000000 := by omega
        have hcells : cn * it.size ≤ 16777216 := by
          rw [hsz]
          exact Nat.le_trans (Nat.mul_le_mul hcm' h16) (by decide)
        have hbytes : (it.bytes : Int) * (cn : Int) ≤ 281474976710656 := by
          rw [hby]
          have : (T e).bytes * cn ≤ 1000 * 1000000 := Nat.mul_le_mul hb1000 hcm'
          have h2 : (((T e).bytes * cn : Nat) : Int) ≤ ((1000 * 1000000 : Nat) : Int) := Int.ofNat_le.2 this
          rw [Int.natCast_mul] at h2
          omega
        have hrun : (execOp a.eval o).run P κ.w = .ok (.value (.slice (some ⟨κ.w.heap.size, 0, none⟩) nn cn)) (κ.w.alloc (.cells (madeCells (T e).zero.cells (cn * (T e).size)) e)) := by
          have := run_makeSlice (P := P) κ.w t e it (T e).zero hu hit hz kl kc (nn : Int) (cn : Int) h0 hnc (by simpa using hcells) hbytes (by omega)
          unfold execOp
          rw [ho]
          simp only [hlv, hcv, this, Sem.run_bind, Result.andThen_ok, Sem.run_pure, hsz]
          simp
        refine wp_val hrun ?_
        have hzr := (ofConst_rel κ _ ht.zok).unk
        have hzone : (cellsOf (unk (ofConst (T e).zero))).all isOne = true := by
          have all : ∀ (cs : List AV) (ds : List D), datasZ cs = some ds → cs.all isOne = true := by
            intro cs
            induction cs with
            | nil => intro _ _; rfl
            | cons c cs ih =>
              intro ds hds
              cases c with
              | d y =>
                simp only [datasZ] at hds
                cases hq : datasZ cs with
                | none => rw [hq] at hds; cases hds
                | some l => simp [isOne, ih l hq]
              | nl =>
                simp only [datasZ] at hds
                cases hq : datasZ cs with
                | none => rw [hq] at hds; cases hds
                | some l => simp [isOne, ih l hq]
              | _ => cases hds
          exact all _ _ hzd
        obtain ⟨hzc, _⟩ := hzr.cells hzone
        obtain ⟨hzl, hzg⟩ := datasZ_get hzd hzc
        have hzsz : zd.length = (T e).size := by rw [hzl, Array.length_toList, ht.zsz]
        have hsize : (T e).zero.cells.size = (T e).size := ht.zsz
        obtain ⟨q1, q2⟩ := hs.add (belowD_alloc κ.w (.cells (madeCells (T e).zero.cells (cn * (T e).size)) e)) s (.rows (T e).size (List.replicate nn zd) false) ⟨some κ.w.heap.size, cn, (T e).size, nn⟩ (fun b hb => by injection hb with hb; subst hb; exact hs.fresh (Nat.le_refl _) (by simp)) rfl
          (fun hle => ⟨by simp, fun x hx => by rw [List.eq_of_mem_replicate hx]; exact hzsz, Or.inr ⟨_, e, _, rfl, rfl, heap_alloc_new _ _, hnc', by simp only [maxLen]; omega, by rw [size_madeCells], fun i j e' x h1 h2 => by
            have hi : i < nn := by
              have := (List.getElem?_eq_some_iff.1 h1).1
              simpa using this
            rw [List.getElem?_replicate, if_pos hi] at h1
            injection h1 with h1
            subst h1
            have hj : j < (T e).size := by rw [← hzsz]; exact (List.getElem?_eq_some_iff.1 h2).1
            have hlt : i * (T e).size + j < cn * (T e).size := by
              have : (i + 1) * (T e).size ≤ cn * (T e).size := Nat.mul_le_mul_right _ (by omega)
              rw [Nat.add_mul] at this
              omega
            have hmod : (i * (T e).size + j) % (T e).size = j := by rw [Nat.add_comm, Nat.add_mul_mod_self_right, Nat.mod_eq_of_lt hj]
            have hjz : j < (T e).zero.cells.size := by rw [hsize]; exact hj
            refine ⟨(T e).zero.cells[j], ?_, hle.relD (hzg j x _ h2 (by simp [hjz]))⟩
            rw [made_get _ _ _ hlt]
            simp only [hsize, hmod]
            rw [getElem!_pos (T e).zero.cells j hjz]⟩⟩)
        refine ⟨_, rfl, q1, q2, _, rfl, ?_⟩
        rw [← hs.gn]
        have := Rel.row (κ := κ.put s ⟨some κ.w.heap.size, cn, (T e).size, nn⟩ (κ.w.alloc (.cells (madeCells (T e).zero.cells (cn * (T e).size)) e))) (s := s) (g := κ.gn s + 1) (b := κ.w.heap.size) (by rw [Cx.put_gn]; exact Nat.le_refl _) (by rw [Cx.put_new])
        rw [Cx.put_new] at this
        simpa using this
    · cases h
theorem sim_copy (hT : TOk P T) (hs : Sim w0 A m κ) (he : EnvOk κ env a.tmps) {x y : Operand} {t e z : Nat} (ho : o.op = .call { callee := .builtin .copy, args := #[x, y], argTypes := #[t, t] }) (hk : (T t).k = .slice e z) (h : (copyF (T e) (rhoOf env x) (rhoOf env y)).Runs F m v m') :
    o.wp P a κ.w (fun a' w' => After w0 A κ o v m' a a' w') Q := by
  unfold copyF at h
  cases hb : ((T e).known && Nat.blt 0 (T e).size)
  · rw [hb] at h; cases h
  · rw [hb] at h
    simp only [Bool.and_eq_true] at hb
    obtain ⟨hkn, hpos⟩ := hb
    have hpos : 0 < (T e).size := Nat.lt_of_succ_le (Nat.le_of_ble_eq_true hpos)
    have ht := hT e hkn
    obtain ⟨it, hit, hsz, hby, hz⟩ := ht.info
    obtain ⟨dd, hu, hd, _⟩ := hT.kok hk (by simp)
    have hd : dd = _ := hd
    subst hd
    generalize hx : rhoOf env x = xa at h
    generalize hy : rhoOf env y = ya at h
    simp only [cond_true] at h
    split at h
    · rename_i s g n d
      obtain ⟨xs, hsrc, h⟩ := elemsOf_runs hs (ev_rel he hy) h
      obtain ⟨hall, h⟩ := chk_inv h
      cases h with
      | rww hi h =>
        rename_i sz es
        dsimp only at h
        cases hbe : Nat.beq sz (T e).size
        · rw [hbe] at h; cases h
        · rw [hbe] at h
          have hbe := Nat.eq_of_beq_eq_true hbe
          subst hbe
          cases h with
          | wr h =>
            obtain ⟨rfl, rfl⟩ := ret_inv h
            have hrun : ∀ (r : Value) (w' : World), (Builtin.copy_ #[t, t] o.type #[a.eval x, a.eval y]).run P κ.w = .ok r w' → After w0 A κ o (I (Nat.min xs.length es.length)) (m.set s g (some (.rows (T e).size (xs.take es.length ++ es.drop xs.length) false))) a (a.put o.dst r) w' → o.wp P a κ.w (fun a' w' => After w0 A κ o (I (Nat.min xs.length es.length)) (m.set s g (some (.rows (T e).size (xs.take es.length ++ es.drop xs.length) false))) a a' w') Q := by
              intro r w' hr hK
              refine wp_val ?_ hK
              unfold execOp
              rw [ho]
              simp only [resolve, List.map_toArray, List.map_cons, List.map_nil, Sem.run_bind, Sem.run_pure, Result.andThen_ok, invoke, builtin, hr]
            obtain ⟨hlen, hes, h3⟩ := hs.ok s g _ hi
            have hr := ev_rel he hx
            generalize hyx : a.eval x = yx at hr
            have hint : ∀ κ' : Cx, Rel κ' (I (Nat.min xs.length es.length)) (goInt (Nat.min xs.length es.length)) := fun κ' => .d (.v _ rfl)
            have hmn : Nat.min xs.length es.length ≤ es.length := Nat.min_le_right _ _
            /- nothing to copy -/
            have none_ : Nat.min xs.length es.length = 0 → (Builtin.copy_ #[t, t] o.type #[a.eval x, a.eval y]).run P κ.w = .ok (goInt (Nat.min xs.length es.length)) κ.w → o.wp P a κ.w (fun a' w' => After w0 A κ o (I (Nat.min xs.length es.length)) (m.set s g (some (.rows (T e).size (xs.take es.length ++ es.drop xs.length) false))) a a' w') Q := by
              intro h0 hrn
              have hsame : xs.take es.length ++ es.drop xs.length = es := by
                rcases Nat.min_eq_zero_iff.1 h0 with h | h
                · have : xs = [] := List.eq_nil_of_length_eq_zero h
                  subst this
                  simp
                · have : es = [] := List.eq_nil_of_length_eq_zero h
                  subst this
                  simp
              refine hrun _ _ hrn ?_
              rw [hsame]
              have := hs.set (i' := .rows (T e).size es false) (w' := κ.w) hi rfl rfl (Nat.le_refl _) rfl rfl rfl rfl (fun _ _ => rfl) (fun hle => (hs.ok s g _ hi).mono hle fun b hb => rfl)
              exact ⟨_, rfl, this.1, this.2, _, rfl, hint _⟩
            have nothing : ∀ (A1 A2 : Option Addr) (dl dc sl sc : Nat), Nat.min sl dl = 0 → (Builtin.copy_ #[t, t] o.type #[.slice A1 dl dc, .slice A2 sl sc]).run P κ.w = .ok (goInt 0) κ.w := by
              intro A1 A2 dl dc sl sc h0
              have hl : ∀ (b : Addr), (loadCells b 0).run P κ.w = .ok #[] κ.w := fun b => by simpa using run_loadCells_list (P := P) κ.w b [] (by simp)
              cases A1 <;> cases A2 <;> simp [Builtin.copy_, run_underlying hu, Builtin.lenOf, Builtin.firstCells, sizeOf, typeInfo, hit, h0, storeCells, hl]
            cases hr with
            | row0 A' hg hb hl =>
              have hes0 : es.length = 0 := by rw [hlen, hl]
              have h0 : Nat.min xs.length es.length = 0 := by rw [hes0]; exact Nat.min_zero _
              refine none_ h0 ?_
              rw [hyx, h0]
              rcases flat_src hsrc hall with ⟨rfl, A2, c, hey⟩ | ⟨hne, b, q, c, news, hey, _⟩
              · rw [hey]; exact nothing _ _ _ _ _ _ rfl
              · rw [hey]; exact nothing _ _ _ _ _ _ (Nat.min_zero _)
            | @row _ _ b0 hg hb =>
              rcases h3 with ⟨h4, _⟩ | ⟨b', tt, cur, hb', hzz, hh, hlc, hcm, hcs, hra⟩
              · rw [h4] at hb; cases hb
              · rw [hb] at hb'
                injection hb' with hb'
                subst hb'
                rcases flat_src hsrc hall with ⟨rfl, A2, c, hey⟩ | ⟨hne, b, q, c, news, hey, hnl, hcell, h1, hrel⟩
                · refine none_ (Nat.zero_min _) ?_
                  rw [hyx, hey]
                  exact nothing _ _ _ _ _ _ (Nat.zero_min _)
                · generalize hk : Nat.min xs.length es.length = k at *
                  have hk1 : k ≤ xs.length := by rw [← hk]; exact Nat.min_le_left _ _
                  have hk2 : k ≤ es.length := by rw [← hk]; exact Nat.min_le_right _ _
                  have hk3 : xs.length ≤ es.length → k = xs.length := fun h => by rw [← hk]; exact Nat.min_eq_left h
                  have hk4 : es.length ≤ xs.length → k = es.length := fun h => by rw [← hk]; exact Nat.min_eq_right h
                  have hnk : k * (T e).size ≤ news.length := by rw [hnl]; exact Nat.mul_le_mul_right _ hk1
                  have hcl : (news.take (k * (T e).size)).length = k * (T e).size := by rw [List.length_take]; omega
                  have hfit : k * (T e).size ≤ cur.size := by
                    rw [hcs]
                    exact Nat.mul_le_mul_right _ (by omega)
                  have hone : ∀ u ∈ news.take (k * (T e).size), u.oneCell' = true := fun u hu => h1 u (List.mem_of_mem_take hu)
                  have hrn : (Builtin.copy_ #[t, t] o.type #[a.eval x, a.eval y]).run P κ.w = .ok (goInt k) (κ.w.setRow b0 (over cur.toList 0 (news.take (k * (T e).size))).toArray) := by
                    have hf := run_firstCells_some (P := P) κ.w it.size k ⟨b, q, none⟩ xs.length c (news.take (k * (T e).size)) (by rw [hsz]; exact hcl) (fun j u hu => hcell j u (by
                      rw [List.getElem?_take] at hu
                      split at hu
                      · exact hu
                      · cases hu))
                    have hst := run_storeCells_at P b0 0 tt (news.take (k * (T e).size)) 0 cur κ.w hh (by rw [hcl]; simpa using hfit) hone
                    have hmin : Nat.min xs.length (κ.φ s g).len = k := by rw [← hlen]; exact hk
                    simp only [Nat.add_zero] at hst
                    rw [hyx, hey]
                    simp only [Builtin.copy_]
                    simp [run_underlying hu, sizeOf, typeInfo, hit, Builtin.lenOf, hmin, hf, hst, over]
                  refine hrun _ _ hrn ?_
                  have := hs.set (i' := .rows (T e).size (xs.take es.length ++ es.drop xs.length) false) (w' := κ.w.setRow b0 (over cur.toList 0 (news.take (k * (T e).size))).toArray) hi rfl rfl (Nat.le_refl _) rfl rfl rfl (setRow_size _ _ _)
                    (fun k' hk' => by
                      rw [setRow_other]
                      rintro rfl
                      exact hk' hb)
                    (fun hle => ⟨by simp; omega, fun e' he' => by
                        rcases List.mem_append.1 he' with h | h
                        · exact hall e' (List.mem_of_mem_take h)
                        · exact hes e' (List.mem_of_mem_drop h),
                      Or.inr ⟨_, tt, _, hb, hzz, setRow_heap _ _ cur _ tt _ hh, hlc, hcm, by
                        rw [List.size_toArray, over_length _ _ _ (by rw [hcl]; simpa using hfit)]
                        simpa using hcs, fun i j e' x' hi' hx' => by
                          have hov : ∀ p, ((over cur.toList 0 (news.take (k * (T e).size))).toArray)[p]? = if p < k * (T e).size then news[p]? else cur[p]? := by
                            intro p
                            have := over_get cur.toList 0 (news.take (k * (T e).size)) (by rw [hcl]; simpa using hfit) p
                            simp only [Nat.not_lt_zero, if_false, Nat.zero_add, hcl, Nat.sub_zero] at this
                            rw [List.getElem?_toArray, this]
                            by_cases hp : p < k * (T e).size
                            · rw [if_pos hp, if_pos hp, List.getElem?_take, if_pos hp]
                            · rw [if_neg hp, if_neg hp]
                              simp
                          rw [List.getElem?_append] at hi'
                          split at hi'
                          · rename_i hlt
                            rw [List.length_take] at hlt
                            rw [List.getElem?_take, if_pos (by omega)] at hi'
                            have hj : j < (T e).size := by
                              have := (List.getElem?_eq_some_iff.1 hx').1
                              rw [hall e' (List.mem_of_getElem? hi')] at this
                              exact this
                            have hik : i < k := by
                              rcases Nat.le_total xs.length es.length with h | h
                              · rw [hk3 h]; omega
                              · rw [hk4 h]; omega
                            have hpos' : i * (T e).size + j < k * (T e).size := by
                              have : (i + 1) * (T e).size ≤ k * (T e).size := Nat.mul_le_mul_right _ (by omega)
                              rw [Nat.add_mul] at this
                              omega
                            obtain ⟨u, hu', hd'⟩ := hrel i j e' x' hi' hx'
                            exact ⟨u, by rw [hov, if_pos hpos']; exact hu', hle.relD hd'⟩
                          · rename_i hlt
                            rw [List.length_take] at hlt hi'
                            rw [List.getElem?_drop] at hi'
                            have hii : (List.drop xs.length es).length = es.length - xs.length := List.length_drop ..
                            have hex : xs.length + (i - min es.length xs.length) < es.length := (List.getElem?_eq_some_iff.1 hi').1
                            have hmx : min es.length xs.length = xs.length := by omega
                            rw [hmx] at hi' hlt
                            have hie : xs.length + (i - xs.length) = i := by omega
                            rw [hie] at hi'
                            have hkx : k = xs.length := hk3 (by omega)
                            have hge : ¬ i * (T e).size + j < k * (T e).size := by
                              have : k * (T e).size ≤ i * (T e).size := Nat.mul_le_mul_right _ (by omega)
                              omega
                            obtain ⟨u, hu', hd'⟩ := hra i j e' x' hi' hx'
                            exact ⟨u, by rw [hov, if_neg hge]; exact hu', hle.relD hd'⟩⟩⟩)
                  exact ⟨_, rfl, this.1, this.2, _, rfl, hint _⟩
    · cases h
end
end Go.Proofs.Ytlgadmholjaljaa
