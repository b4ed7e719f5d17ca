/-
  Evaluation of Go code on plain data: loads and stores. Over any program.
-/
import Derived.Test.YtlgadmholjaljaaEvH
namespace Go.Proofs.Ytlgadmholjaljaa
open Go.RowKit
theorem range_block {w : World} {b : Nat} {vs : Array Value} {t : TypeId} {fr : Nat × Nat} (h : w.heap[b]? = some (.cells vs t fr)) (o : Nat) : w.rangeAt b o (vs.toList.drop o) := fun j v hv => by
  rw [cell_of_row w b (o + j) vs t fr h]
  rw [List.getElem?_drop] at hv
  simpa using hv
theorem run_store_row {P : Program} {w : World} {g q t : Nat} {cur : Array Value} {tt : TypeId} {x : Value} (hg : w.heap[g]? = some (.cells cur tt (0, 0))) (hl : q + x.cells.size ≤ cur.size) (h1 : ∀ u ∈ x.cells.toList, u.oneCell' = true) (hz : SizeIs P t x.cells.size) :
    (Instr.storeAt t (.pointer (some ⟨g, q, none⟩)) x).run P w = .ok () (w.setRow g (over cur.toList q x.cells.toList).toArray) := by
  unfold SizeIs at hz
  cases hq : P.info? t with
  | none => simp [hq] at hz
  | some i =>
    have hs : x.cells.size = i.size := by simp [hq] at hz; omega
    have hst := run_storeCells_at P g q tt x.cells.toList 0 cur w hg (by simpa using hl) h1
    simp only [Nat.add_zero] at hst
    simp [Instr.storeAt, Instr.sureAddr, storeVar, sizeOf, typeInfo, hq, hs, hst, over]
theorem setRow_size (w : World) (g : Nat) (cs : Array Value) : (w.setRow g cs).heap.size = w.heap.size := by simp [World.setRow]
section
variable {P : Program} {T : Nat → TI} {F : FuncId → List AV → AV → Prop} {w0 : Start} {A : Nat → Prop} {o : Oper} {a : Act} {κ : Cx} {m m' : Mem} {v : AV} {Q : Exit → Act → World → Prop} {env : Nat → Option AV}
theorem loadF_inv {t : TI} {x : Option AV} (h : (loadF t x).Runs F m v m') : (∃ cs, x = some (.fp cs) ∧ (ldD t cs).Runs F m v m') ∨ (∃ s g o cs, x = some (.lp s g o) ∧ m.at_ s g = some (.box cs) ∧ (ldA t (cs.drop o)).Runs F m v m') ∨
    ∃ s g i o sz es ro c, x = some (.rp s g i o) ∧ m.at_ s g = some (.rows sz es ro) ∧ es[i]? = some c ∧ (ldD t (c.drop o)).Runs F m v m' := by
  unfold loadF at h
  split at h
  · exact Or.inl ⟨_, rfl, h⟩
  · cases h with
    | rdb hi h => exact Or.inr (Or.inl ⟨_, _, _, _, rfl, hi, h⟩)
  · cases h with
    | rdr hi h =>
      cases h with
      | elem hc h => exact Or.inr (Or.inr ⟨_, _, _, _, _, _, _, _, rfl, hi, hc, h⟩)
  · cases h
theorem sim_load (hT : TOk P T) (hs : Sim w0 A m κ) (he : EnvOk κ env a.tmps) {t : Nat} {x : Operand} (ho : o.op = .load t x) (h : (loadF (T t) (rhoOf env x)).Runs F m v m') :
    o.wp P a κ.w (fun a' w' => After w0 A κ o v m' a a' w') Q := by
  have fin : ∀ (b q : Nat) (cs : List AV) (vs : List Value), a.eval x = .pointer (some ⟨b, q, none⟩) → RelL κ cs vs → κ.w.rangeAt b q vs → (ldA (T t) cs).Runs F m v m' → o.wp P a κ.w (fun a' w' => After w0 A κ o v m' a a' w') Q := by
    intro b q cs vs hx hr hw h
    obtain ⟨y, hrun, hy, rfl⟩ := ldA_runs hT hr hw h
    have : (execOp a.eval o).run P κ.w = .ok (.value y) κ.w := by
      unfold execOp
      rw [ho]
      simp only [hx, Sem.run_bind, hrun, Result.andThen_ok]
      rfl
    exact wp_val this (After.pure_ hs hy)
  rcases loadF_inv h with ⟨cs, hx, h⟩ | ⟨s, g, q, cs, hx, hi, h⟩ | ⟨s, g, i, q, sz, es, ro, c, hx, hi, hc, h⟩
  · have hr := ev_rel he hx
    generalize hy : a.eval x = y at hr
    cases hr with
    | fp vs hb hcell hrel =>
      rw [ldD_eq] at h
      refine fin _ _ _ ((List.range cs.length).map vs) hy (relL_of_data (by simp) fun j y u hj hu => ?_) (fun j u hu => ?_) h
      · have hlt : j < cs.length := (List.getElem?_eq_some_iff.1 hj).1
        simp [hlt] at hu
        subst hu
        exact hrel j y hj
      · have hlt : j < cs.length := by
          have := (List.getElem?_eq_some_iff.1 hu).1
          simpa using this
        simp [hlt] at hu
        subst hu
        exact hcell j hlt
  · have hr := ev_rel he hx
    generalize hy : a.eval x = y at hr
    cases hr with
    | lp hg hb =>
      obtain ⟨b', tt, vs, hb', hh, hl, hrel⟩ := hs.ok s g _ hi
      rw [hb] at hb'
      injection hb' with hb'
      subst hb'
      have hL : RelL κ cs vs.toList := ⟨by simpa using hl, fun j c u hc hu => (hrel j c u hc (by simpa using hu)).1⟩
      exact fin _ _ _ (vs.toList.drop q) hy (hL.drop q) (range_block hh q) h
  · have hr := ev_rel he hx
    generalize hy : a.eval x = y at hr
    cases hr with
    | rp hg hb =>
      obtain ⟨hlen, hall, h3⟩ := hs.ok s g _ hi
      rcases h3 with ⟨h4, _⟩ | ⟨b', tt, cur, hb', hz, hh, hl, hm, hcs, hra⟩
      · rw [h4] at hb; cases hb
      · rw [hb] at hb'
        injection hb' with hb'
        subst hb'
        rw [ldD_eq] at h
        have hcl : c.length = sz := hall c (List.mem_of_getElem? hc)
        have hi' : i < es.length := (List.getElem?_eq_some_iff.1 hc).1
        have hfit : i * sz + sz ≤ cur.size := by
          rw [hcs]
          have : (i + 1) * sz ≤ (κ.φ s g).cap * sz := Nat.mul_le_mul_right _ (by omega)
          rw [Nat.add_mul] at this
          omega
        refine fin _ _ _ ((cur.toList.drop (i * sz + q)).take (c.length - q)) hy (relL_of_data ?_ fun j y u hj hu => ?_) (fun j u hu => ?_) h
        · simp
          omega
        · rw [List.getElem?_take] at hu
          split at hu
          · rw [List.getElem?_drop] at hj hu
            obtain ⟨u', hu', hd⟩ := hra i (q + j) c y hc hj
            have : cur.toList[i * sz + q + j]? = some u' := by rw [Nat.add_assoc]; simpa using hu'
            rw [this] at hu
            injection hu with hu
            subst hu
            exact hd
          · cases hu
        · rw [List.getElem?_take] at hu
          split at hu
          · rw [hz]
            exact range_block hh (i * sz + q) j u hu
          · cases hu
theorem storeF_inv {t : TI} {x y : Option AV} (h : (storeF t x y).Runs F m v m') : t.known = true ∧ ∃ c, y = some c ∧ (cellsOf c).all isOne = true ∧ (cellsOf c).length = t.size ∧
    ((∃ s g o, x = some (.lp s g o) ∧ (settle (s + 1048576 * (o + 1)) t.cz 0 (cellsOf c) fun vs => .rdb s g fun cs => bif Nat.ble (o + vs.length) cs.length then .wr s g (.box (over cs o vs)) (.ret (.tup [])) else .fail).Runs F m v m') ∨
     ∃ s g i o, x = some (.rp s g i o) ∧ (dataList (cellsOf c) fun vs => .rww s g fun sz es => .elem es i fun c => bif Nat.ble (o + vs.length) sz then .wr s g (.rows sz (es.set i (over c o vs)) false) (.ret (.tup [])) else .fail).Runs F m v m') := by
  unfold storeF at h
  split at h
  · rename_i s g q c
    cases hb : (t.known && (cellsOf c).all isOne && Nat.beq (cellsOf c).length t.size)
    · rw [hb] at h; cases h
    · rw [hb] at h
      simp only [Bool.and_eq_true] at hb
      exact ⟨hb.1.1, c, rfl, hb.1.2, Nat.eq_of_beq_eq_true hb.2, Or.inl ⟨s, g, q, rfl, h⟩⟩
  · rename_i s g i q c
    cases hb : (t.known && (cellsOf c).all isOne && Nat.beq (cellsOf c).length t.size)
    · rw [hb] at h; cases h
    · rw [hb] at h
      simp only [Bool.and_eq_true] at hb
      exact ⟨hb.1.1, c, rfl, hb.1.2, Nat.eq_of_beq_eq_true hb.2, Or.inr ⟨s, g, i, q, rfl, h⟩⟩
  · cases h
theorem sim_store (hT : TOk P T) (hs : Sim w0 A m κ) (he : EnvOk κ env a.tmps) {t : Nat} {x y : Operand} (ho : o.op = .store t x y) (h : (storeF (T t) (rhoOf env x) (rhoOf env y)).Runs F m v m') :
    o.wp P a κ.w (fun a' w' => After w0 A κ o v m' a a' w') Q := by
  obtain ⟨hk, c, hy, hone, hlen, h⟩ := storeF_inv h
  have ht := hT t hk
  obtain ⟨it, hit, hsz, _, _⟩ := ht.info
  obtain ⟨hcs, h1⟩ := (ev_rel he hy).cells hone
  have hz : SizeIs P t (a.eval y).cells.size := by
    have := hcs.1
    simp only [Array.length_toList] at this
    simp [SizeIs, hit, hsz, this, hlen]
  have fin : ∀ (g q : Nat) (cur : Array Value) (tt : TypeId), a.eval x = .pointer (some ⟨g, q, none⟩) → κ.w.heap[g]? = some (.cells cur tt (0, 0)) → q + (a.eval y).cells.size ≤ cur.size →
      After w0 A κ o v m' a (a.put o.dst undef) (κ.w.setRow g (over cur.toList q (a.eval y).cells.toList).toArray) → o.wp P a κ.w (fun a' w' => After w0 A κ o v m' a a' w') Q := by
    intro g q cur tt hx hg hl hk
    have : (execOp a.eval o).run P κ.w = .ok .skip (κ.w.setRow g (over cur.toList q (a.eval y).cells.toList).toArray) := by
      unfold execOp
      rw [ho]
      simp only [hx, Sem.run_bind, run_store_row hg hl h1 hz, Result.andThen_ok]
      rfl
    exact wp_skp this hk
  have hundef : ∀ κ' : Cx, Rel κ' (.tup []) undef := fun κ' => .tup rfl fun j c v hc => by simp at hc
  rcases h with ⟨s, g, q, hx, h⟩ | ⟨s, g, i, q, hx, h⟩
  · have hr := ev_rel he hx
    generalize hyx : a.eval x = yx at hr
    cases hr with
    | lp hg hb =>
      obtain ⟨m1, κ1, cs1, g1, g2, g3, g4, g5⟩ := settle_runs _ _ (cellsOf c) 0 _ m κ _ v m' hs hcs h
      cases g5 with
      | rdb hi g5 =>
        rename_i cs
        dsimp only at g5
        cases hble : Nat.ble (q + cs1.length) cs.length
        · rw [hble] at g5; cases g5
        · rw [hble] at g5
          have hble := Nat.le_of_ble_eq_true hble
          cases g5 with
          | wr g5 =>
            cases g5 with
            | ret =>
              obtain ⟨b', tt, vs, hb', hh, hl, hrel⟩ := g1.ok s g _ hi
              rw [g2.φ s g hg, hb] at hb'
              injection hb' with hb'
              subst hb'
              have hvs : vs.size = cs.length := hl
              have hc1 : (a.eval y).cells.size = cs1.length := by simpa using g4.1
              rw [g3] at hh
              refine fin _ _ vs tt hyx hh (by omega) ?_
              have hL : RelL κ1 cs vs.toList := ⟨by simpa using hl, fun j c u hc hu => (hrel j c u hc (by simpa using hu)).1⟩
              have := g1.set (i' := .box (over cs q cs1)) (w' := κ.w.setRow _ (over vs.toList q (a.eval y).cells.toList).toArray) hi rfl rfl (by rw [g3]; exact Nat.le_refl _) (by rw [g3]; rfl) (by rw [g3]; rfl) (by rw [g3]; rfl) (by rw [g3]; exact setRow_size _ _ _)
                (fun k hk => by
                  rw [g3, setRow_other]
                  rintro rfl
                  rw [g2.φ s g hg] at hk
                  exact hk hb)
                (fun hle => ⟨_, tt, _, by rw [g2.φ s g hg]; exact hb, setRow_heap _ _ vs _ tt _ hh, by
                    rw [List.size_toArray, over_length _ _ _ (by simp; omega), over_length _ _ _ (by omega)]
                    simpa using hl,
                  fun j c' u hc' hu => by
                    have hov := (hL.over g4 q)
                    refine ⟨(hov.2 j c' u hc' (by simpa using hu)).mono hle, ?_⟩
                    have hu' : (over vs.toList q (a.eval y).cells.toList)[j]? = some u := by simpa using hu
                    rw [over_get _ _ _ (by simp; omega)] at hu'
                    have hold : ∀ (j : Nat) (u : Value), vs.toList[j]? = some u → u.oneCell' = true := by
                      intro j u hu
                      have hj : j < cs.length := by
                        have := (List.getElem?_eq_some_iff.1 hu).1
                        simp at this
                        omega
                      exact (hrel j cs[j] u (List.getElem?_eq_getElem hj) (by simpa using hu)).2
                    split at hu'
                    · exact hold j u hu'
                    · split at hu'
                      · exact h1 u (List.mem_of_getElem? hu')
                      · exact hold j u hu'⟩)
              exact ⟨_, rfl, this.1, g2.trans this.2, undef, rfl, hundef _⟩
  · have hr := ev_rel he hx
    generalize hyx : a.eval x = yx at hr
    cases hr with
    | rp hg hb =>
      obtain ⟨m1, κ1, ds, g1, g2, g3, g4, g5⟩ := dataList_runs (cellsOf c) _ m κ _ v m' hs hcs h
      cases g5 with
      | rww hi g5 =>
        rename_i sz es
        cases g5 with
        | elem hc g5 =>
          rename_i cc
          dsimp only at g5
          cases hble : Nat.ble (q + ds.length) sz
          · rw [hble] at g5; cases g5
          · rw [hble] at g5
            have hble := Nat.le_of_ble_eq_true hble
            cases g5 with
            | wr g5 =>
              cases g5 with
              | ret =>
                obtain ⟨hlen2, hall, h3⟩ := g1.ok s g _ hi
                rcases h3 with ⟨h4, _⟩ | ⟨b', tt, cur, hb', hzz, hh, hl, hm, hcsz, hra⟩
                · rw [g2.φ s g hg, hb] at h4; cases h4
                · rw [g2.φ s g hg, hb] at hb'
                  injection hb' with hb'
                  subst hb'
                  rw [g2.φ s g hg] at hzz hl hm hcsz hlen2
                  have hcl : cc.length = sz := hall cc (List.mem_of_getElem? hc)
                  have hi' : i < es.length := (List.getElem?_eq_some_iff.1 hc).1
                  have hfit : i * sz + sz ≤ cur.size := by
                    rw [hcsz]
                    have : (i + 1) * sz ≤ (κ.φ s g).cap * sz := Nat.mul_le_mul_right _ (by omega)
                    rw [Nat.add_mul] at this
                    omega
                  have hd1 : (a.eval y).cells.size = ds.length := by simpa using g4.1.symm
                  rw [g3] at hh
                  rw [hzz] at hyx
                  refine fin _ _ cur tt hyx hh (by omega) ?_
                  have := g1.set (i' := .rows sz (es.set i (over cc q ds)) false) (w' := κ.w.setRow _ (over cur.toList (i * sz + q) (a.eval y).cells.toList).toArray) hi rfl rfl (by rw [g3]; exact Nat.le_refl _) (by rw [g3]; rfl) (by rw [g3]; rfl) (by rw [g3]; rfl) (by rw [g3]; exact setRow_size _ _ _)
                    (fun k hk => by
                      rw [g3, setRow_other]
                      rintro rfl
                      rw [g2.φ s g hg] at hk
                      exact hk hb)
                    (fun hle => ⟨by simp [hlen2, g2.φ s g hg], fun e he => by
                        rcases List.mem_or_eq_of_mem_set he with he | rfl
                        · exact hall e he
                        · rw [over_length _ _ _ (by omega)]; exact hcl,
                      Or.inr ⟨_, tt, _, by rw [g2.φ s g hg]; exact hb, by rw [g2.φ s g hg]; exact hzz, setRow_heap _ _ cur _ tt _ hh, by rw [g2.φ s g hg]; exact hl, by rw [g2.φ s g hg]; exact hm,
                        by rw [List.size_toArray, over_length _ _ _ (by simp; omega), g2.φ s g hg]; simpa using hcsz,
                        fun i' j' e xx he' hx' => by
                          have hov : ∀ k, ((over cur.toList (i * sz + q) (a.eval y).cells.toList).toArray)[k]? = if k < i * sz + q then cur[k]? else if k < i * sz + q + ds.length then (a.eval y).cells.toList[k - (i * sz + q)]? else cur[k]? := by
                            intro k
                            have := over_get cur.toList (i * sz + q) (a.eval y).cells.toList (by simp; omega) k
                            simpa [hd1] using this
                          rw [List.getElem?_set] at he'
                          have hj' : j' < sz := by
                            have hje : j' < e.length := (List.getElem?_eq_some_iff.1 hx').1
                            split at he'
                            · injection he' with he'
                              subst he'
                              rw [over_length _ _ _ (by omega)] at hje
                              omega
                            · rw [hall e (List.mem_of_getElem? he')] at hje
                              exact hje
                          split at he'
                          · rename_i hii
                            subst hii
                            · injection he' with he'
                              subst he'
                              rw [over_get _ _ _ (by omega)] at hx'
                              by_cases hq1 : j' < q
                              · rw [if_pos hq1] at hx'
                                obtain ⟨u, hu, hd⟩ := hra i j' cc xx hc hx'
                                exact ⟨u, by rw [hov, if_pos (by omega)]; exact hu, hle.relD hd⟩
                              · rw [if_neg hq1] at hx'
                                by_cases hq2 : j' < q + ds.length
                                · rw [if_pos hq2] at hx'
                                  have hlt : j' - q < (a.eval y).cells.toList.length := by simp; omega
                                  exact ⟨_, by rw [hov, if_neg (by omega), if_pos (by omega), show i * sz + j' - (i * sz + q) = j' - q by omega]; exact List.getElem?_eq_getElem hlt, hle.relD (g4.2 (j' - q) xx _ hx' (List.getElem?_eq_getElem hlt))⟩
                                · rw [if_neg hq2] at hx'
                                  obtain ⟨u, hu, hd⟩ := hra i j' cc xx hc hx'
                                  exact ⟨u, by rw [hov, if_neg (by omega), if_neg (by omega)]; exact hu, hle.relD hd⟩
                          · rename_i hii
                            obtain ⟨u, hu, hd⟩ := hra i' j' e xx he' hx'
                            refine ⟨u, ?_, hle.relD hd⟩
                            rw [hov]
                            rcases Nat.lt_or_ge i' i with hlt | hge
                            · have : (i' + 1) * sz ≤ i * sz := Nat.mul_le_mul_right _ (by omega)
                              rw [Nat.add_mul] at this
                              rw [if_pos (by omega)]
                              exact hu
                            · have : (i + 1) * sz ≤ i' * sz := Nat.mul_le_mul_right _ (by omega)
                              rw [Nat.add_mul] at this
                              rw [if_neg (by omega), if_neg (by omega)]
                              exact hu⟩⟩)
                  exact ⟨_, rfl, this.1, g2.trans this.2, undef, rfl, hundef _⟩
end
end Go.Proofs.Ytlgadmholjaljaa
