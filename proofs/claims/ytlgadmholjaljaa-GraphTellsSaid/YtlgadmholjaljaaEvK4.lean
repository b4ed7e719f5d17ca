/-
  Evaluation of Go code on plain data: clear. Over any program.
-/
import Derived.Test.YtlgadmholjaljaaEvK3
namespace Go.Proofs.Ytlgadmholjaljaa
open Go.RowKit
/-- elements of a row that are written anew -/
theorem rowat_over {κ κ' : Cx} (hle : κ.Le κ') {cur : Array Value} {sz q : Nat} {es ys : List (List D)} {news : List Value} (hcur : es.length * sz ≤ cur.size) (hr : RowAt κ cur sz es) (hes : ∀ e ∈ es, e.length = sz) (hys : ∀ e ∈ ys, e.length = sz)
    (hq : q + ys.length ≤ es.length) (hnl : news.length = ys.length * sz) (hn : ∀ (i j : Nat) (e : List D) (x : D), ys[i]? = some e → e[j]? = some x → ∃ u, news[i * sz + j]? = some u ∧ RelD κ'.S κ'.w x u) :
    (q * sz + news.length ≤ cur.toList.length) ∧ RowAt κ' (over cur.toList (q * sz) news).toArray sz (es.take q ++ ys ++ es.drop (q + ys.length)) := by
  have hfit : q * sz + news.length ≤ cur.toList.length := by
    rw [hnl, ← Nat.add_mul, Array.length_toList]
    exact Nat.le_trans (Nat.mul_le_mul_right _ hq) hcur
  refine ⟨hfit, fun i j e x hi hx => ?_⟩
  have hget : ∀ p, ((over cur.toList (q * sz) news).toArray)[p]? = if p < q * sz then cur[p]? else if p < q * sz + news.length then news[p - q * sz]? else cur[p]? := by
    intro p
    have := over_get cur.toList (q * sz) news hfit p
    rw [List.getElem?_toArray, this]
    simp
  have htl : (es.take q).length = q := by rw [List.length_take]; omega
  have hmem : e ∈ es.take q ++ ys ++ es.drop (q + ys.length) := List.mem_of_getElem? hi
  have hez : e.length = sz := by
    rcases List.mem_append.1 hmem with h | h
    · rcases List.mem_append.1 h with h | h
      · exact hes e (List.mem_of_mem_take h)
      · exact hys e h
    · exact hes e (List.mem_of_mem_drop h)
  have hj : j < sz := by rw [← hez]; exact (List.getElem?_eq_some_iff.1 hx).1
  by_cases h1 : i < q
  · have h2 : es[i]? = some e := by
      rw [List.append_assoc, List.getElem?_append_left (by omega), List.getElem?_take, if_pos h1] at hi
      exact hi
    obtain ⟨u, hu, hd⟩ := hr i j e x h2 hx
    refine ⟨u, ?_, hle.relD hd⟩
    have hp : i * sz + j < q * sz := by
      have : (i + 1) * sz ≤ q * sz := Nat.mul_le_mul_right _ (by omega)
      rw [Nat.add_mul] at this
      omega
    rw [hget, if_pos hp]
    exact hu
  · by_cases h2 : i < q + ys.length
    · have h3 : ys[i - q]? = some e := by
        rw [List.append_assoc, List.getElem?_append_right (by omega), htl, List.getElem?_append_left (by omega)] at hi
        exact hi
      obtain ⟨u, hu, hd⟩ := hn (i - q) j e x h3 hx
      have e1 : i * sz = q * sz + (i - q) * sz := by rw [← Nat.add_mul]; congr 1; omega
      have e2 : (i - q) * sz + j < news.length := (List.getElem?_eq_some_iff.1 hu).1
      refine ⟨u, ?_, hd⟩
      rw [hget, if_neg (by omega), if_pos (by omega)]
      have : i * sz + j - q * sz = (i - q) * sz + j := by omega
      rw [this]
      exact hu
    · have h3 : es[i]? = some e := by
        rw [List.getElem?_append_right (by rw [List.length_append, htl]; omega), List.length_append, htl, List.getElem?_drop] at hi
        have : q + ys.length + (i - (q + ys.length)) = i := by omega
        rw [this] at hi
        exact hi
      obtain ⟨u, hu, hd⟩ := hr i j e x h3 hx
      refine ⟨u, ?_, hle.relD hd⟩
      have e1 : (q + ys.length) * sz ≤ i * sz := Nat.mul_le_mul_right _ (by omega)
      rw [Nat.add_mul] at e1
      rw [hget, if_neg (by omega), if_neg (by omega)]
      exact hu
section
variable {P : Program} {T : Nat → TI} {base : Nat} {F : FuncId → List AV → AV → Prop} {w0 : Start} {A : Nat → Prop} {m m' : Mem} {κ : Cx} {a : Act} {env : Nat → Option AV} {v : AV} {o : Oper} {Q : Exit → Act → World → Prop}
theorem zero_get (z : Array Value) (n p : Nat) (h : p < n * z.size) : (Builtin.zeroCells z n).toList[p]? = some (z[p % z.size]!) := by
  simp [Builtin.zeroCells, h]
theorem datasZ_one : ∀ (cs : List AV) (ds : List D), datasZ cs = some ds → cs.all isOne = true := by
  intro cs
  induction cs with
  | nil => intro _ _; rfl
  | cons c cs ih =>
    intro ds hds
    cases c with
    | d y =>
      simp only [datasZ] at hds
      cases hq : datasZ cs with
      | none => rw [hq] at hds; cases hds
      | some l => simp [isOne, ih l hq]
    | nl =>
      simp only [datasZ] at hds
      cases hq : datasZ cs with
      | none => rw [hq] at hds; cases hds
      | some l => simp [isOne, ih l hq]
    | _ => cases hds
theorem sim_clear (hT : TOk P T) (hs : Sim w0 A m κ) (he : EnvOk κ env a.tmps) {x : Operand} {t e z : Nat} (ho : o.op = .call { callee := .builtin .clear, args := #[x], argTypes := #[t] }) (hk : (T t).k = .slice e z) (h : (clearF (T e) (rhoOf env x)).Runs F m v m') :
    o.wp P a κ.w (fun a' w' => After w0 A κ o v m' a a' w') Q := by
  unfold clearF at h
  cases hb : ((T e).known && Nat.blt 0 (T e).size)
  · rw [hb] at h; cases h
  · rw [hb] at h
    simp only [Bool.and_eq_true] at hb
    obtain ⟨hkn, hpos⟩ := hb
    have hpos : 0 < (T e).size := Nat.lt_of_succ_le (Nat.le_of_ble_eq_true hpos)
    have ht := hT e hkn
    obtain ⟨it, hit, hsz, hby, hz⟩ := ht.info
    obtain ⟨dd, hu, hd, _⟩ := hT.kok hk (by simp)
    have hd : dd = _ := hd
    subst hd
    generalize hx : rhoOf env x = xa at h
    generalize hzd : zeroD (T e) = za at h
    simp only [cond_true] at h
    have fin : ∀ (s g q n : Nat) (zd : List D) (es : List (List D)) (y : Value), zeroD (T e) = some zd → m.at_ s g = some (.rows (T e).size es false) → a.eval x = y → v = .tup [] → m' = m.set s g (some (.rows (T e).size (es.take q ++ List.replicate n zd ++ es.drop (q + n)) false)) → q + n ≤ es.length →
        ((n = 0 ∧ ∃ A' c, y = .slice A' 0 c) ∨ ∃ b c, (κ.φ s g).blk = some b ∧ y = .slice (some ⟨b, q * (T e).size, none⟩) n c) → o.wp P a κ.w (fun a' w' => After w0 A κ o v m' a a' w') Q := by
      rintro s g q n zd es y hzd' hi hy rfl rfl hqn hcase
      have hrun : ∀ (w' : World), (Builtin.clear_ #[t] o.type #[a.eval x]).run P κ.w = .ok (.tuple #[]) w' → After w0 A κ o (.tup []) (m.set s g (some (.rows (T e).size (es.take q ++ List.replicate n zd ++ es.drop (q + n)) false))) a (a.put o.dst (.tuple #[])) w' → o.wp P a κ.w (fun a' w' => After w0 A κ o (.tup []) (m.set s g (some (.rows (T e).size (es.take q ++ List.replicate n zd ++ es.drop (q + n)) false))) a a' w') Q := by
        intro w' hr hK
        refine wp_val ?_ hK
        unfold execOp
        rw [ho]
        simp only [resolve, List.map_toArray, List.map_cons, List.map_nil, Sem.run_bind, Sem.run_pure, Result.andThen_ok, invoke, builtin, hr]
      obtain ⟨hlen, hes, h3⟩ := hs.ok s g _ hi
      have htup : ∀ κ' : Cx, Rel κ' (.tup []) (.tuple #[]) := fun κ' => .tup rfl fun j c u hc => by simp at hc
      by_cases hn0 : n = 0
      · subst hn0
        have hsame : es.take q ++ List.replicate 0 zd ++ es.drop (q + 0) = es := by simp
        have hclr : (Builtin.clear_ #[t] o.type #[a.eval x]).run P κ.w = .ok (.tuple #[]) κ.w := by
          rw [hy]
          rcases hcase with ⟨_, A', c, rfl⟩ | ⟨b, c, _, rfl⟩
          · cases A' <;> simp [Builtin.clear_, run_underlying hu]
          · simp [Builtin.clear_, run_underlying hu]
        refine hrun _ hclr ?_
        rw [hsame]
        have := hs.set (i' := .rows (T e).size es false) (w' := κ.w) hi rfl rfl (Nat.le_refl _) rfl rfl rfl rfl (fun _ _ => rfl) (fun hle => (hs.ok s g _ hi).mono hle fun b hb => rfl)
        exact ⟨_, rfl, this.1, this.2, _, rfl, htup _⟩
      · rcases hcase with ⟨h0, _⟩ | ⟨b, c, hb, rfl⟩
        · exact absurd h0 hn0
        · rcases h3 with ⟨h4, _⟩ | ⟨b', tt, cur, hb', hzz, hh, hlc, hcm, hcs, hra⟩
          · rw [h4] at hb; cases hb
          · rw [hb] at hb'
            injection hb' with hb'
            subst hb'
            /- the zero -/
            have hzr := (ofConst_rel κ _ ht.zok).unk
            obtain ⟨hzc, _⟩ := hzr.cells (datasZ_one _ _ hzd')
            obtain ⟨hzl, hzg⟩ := datasZ_get hzd' hzc
            have hsize : (T e).zero.cells.size = (T e).size := ht.zsz
            have hzsz : zd.length = (T e).size := by rw [hzl, Array.length_toList, hsize]
            have hnl : (Builtin.zeroCells (T e).zero.cells n).toList.length = n * (T e).size := by rw [Array.length_toList, size_zeroCells, hsize]
            have hmod : ∀ p, p < n * (T e).size → ∃ x, zd[p % (T e).size]? = some x ∧ ∃ u, (Builtin.zeroCells (T e).zero.cells n).toList[p]? = some u ∧ RelD κ.S κ.w x u := by
              intro p hp
              have hlt : p % (T e).size < (T e).size := Nat.mod_lt _ hpos
              have hjz : p % (T e).size < (T e).zero.cells.size := by rw [hsize]; exact hlt
              have hx : zd[p % (T e).size]? = some (zd[p % (T e).size]'(by rw [hzsz]; exact hlt)) := List.getElem?_eq_getElem _
              refine ⟨_, hx, (T e).zero.cells[p % (T e).size], ?_, hzg _ _ _ hx (by simp [hjz])⟩
              rw [zero_get _ _ _ (by rw [hsize]; exact hp), hsize, getElem!_pos (T e).zero.cells _ hjz]
            have hzone : ∀ u ∈ (Builtin.zeroCells (T e).zero.cells n).toList, u.oneCell' = true := by
              intro u hu'
              obtain ⟨p, hp⟩ := List.mem_iff_getElem?.1 hu'
              have hlt : p < n * (T e).size := by rw [← hnl]; exact (List.getElem?_eq_some_iff.1 hp).1
              obtain ⟨x, _, u', h1, h2⟩ := hmod p hlt
              rw [hp] at h1
              injection h1 with h1
              rw [h1]
              exact h2.one
            have hcur : es.length * (T e).size ≤ cur.size := by rw [hcs]; exact Nat.mul_le_mul_right _ (by omega)
            have hov : ∀ κ' : Cx, κ.Le κ' → (q * (T e).size + (Builtin.zeroCells (T e).zero.cells n).toList.length ≤ cur.toList.length) ∧ RowAt κ' (over cur.toList (q * (T e).size) (Builtin.zeroCells (T e).zero.cells n).toList).toArray (T e).size (es.take q ++ List.replicate n zd ++ es.drop (q + n)) := by
              intro κ' hle
              have := rowat_over hle (q := q) (ys := List.replicate n zd) (news := (Builtin.zeroCells (T e).zero.cells n).toList) hcur hra hes (fun e' he' => by rw [List.eq_of_mem_replicate he']; exact hzsz) (by simpa using hqn) (by rw [hnl]; simp) (fun i j e' x' hi' hx' => by
                rw [List.getElem?_replicate] at hi'
                split at hi'
                · rename_i hin
                  injection hi' with hi'
                  subst hi'
                  have hj : j < (T e).size := by rw [← hzsz]; exact (List.getElem?_eq_some_iff.1 hx').1
                  have hlt : i * (T e).size + j < n * (T e).size := by
                    have : (i + 1) * (T e).size ≤ n * (T e).size := Nat.mul_le_mul_right _ (by omega)
                    rw [Nat.add_mul] at this
                    omega
                  obtain ⟨x, k1, u, k2, k3⟩ := hmod _ hlt
                  have hmd : (i * (T e).size + j) % (T e).size = j := by rw [Nat.add_comm, Nat.add_mul_mod_self_right, Nat.mod_eq_of_lt hj]
                  rw [hmd, hx'] at k1
                  injection k1 with k1
                  subst k1
                  exact ⟨u, k2, hle.relD k3⟩
                · cases hi')
              simpa using this
            have hfit := (hov κ (.refl κ)).1
            have hst := run_storeCells_at P b (q * (T e).size) tt (Builtin.zeroCells (T e).zero.cells n).toList 0 cur κ.w hh (by simpa using hfit) hzone
            simp only [Nat.add_zero] at hst
            have hclr : (Builtin.clear_ #[t] o.type #[a.eval x]).run P κ.w = .ok (.tuple #[]) (κ.w.setRow b (over cur.toList (q * (T e).size) (Builtin.zeroCells (T e).zero.cells n).toList).toArray) := by
              rw [hy]
              obtain ⟨k, rfl⟩ : ∃ k, n = k + 1 := ⟨n - 1, by omega⟩
              simp only [Array.length_toList] at hst
              simp [Builtin.clear_, run_underlying hu, typeInfo, zeroValue, hit, hz, hst, over]
            refine hrun _ hclr ?_
            have := hs.set (i' := .rows (T e).size (es.take q ++ List.replicate n zd ++ es.drop (q + n)) false) (w' := κ.w.setRow b (over cur.toList (q * (T e).size) (Builtin.zeroCells (T e).zero.cells n).toList).toArray) hi rfl rfl (Nat.le_refl _) rfl rfl rfl (setRow_size _ _ _)
              (fun k' hk' => by
                rw [setRow_other]
                rintro rfl
                exact hk' hb)
              (fun hle => ⟨by simp; omega, fun e' he' => by
                  rcases List.mem_append.1 he' with h | h
                  · rcases List.mem_append.1 h with h | h
                    · exact hes e' (List.mem_of_mem_take h)
                    · rw [List.eq_of_mem_replicate h]; exact hzsz
                  · exact hes e' (List.mem_of_mem_drop h),
                Or.inr ⟨_, tt, _, hb, hzz, setRow_heap _ _ cur _ tt _ hh, hlc, hcm, by
                  rw [List.size_toArray, over_length _ _ _ hfit]
                  simpa using hcs, (hov _ hle).2⟩⟩)
            exact ⟨_, rfl, this.1, this.2, _, rfl, htup _⟩
    split at h
    · rename_i s g n zd
      cases h with
      | rww hi h =>
        rename_i sz es
        dsimp only at h
        cases hbe : Nat.beq sz (T e).size
        · rw [hbe] at h; cases h
        · rw [hbe] at h
          have hbe := Nat.eq_of_beq_eq_true hbe
          subst hbe
          cases h with
          | wr h =>
            obtain ⟨rfl, rfl⟩ := ret_inv h
            obtain ⟨hlen, _, h3⟩ := hs.ok s g _ hi
            have hr := ev_rel he hx
            generalize hyx : a.eval x = yx at hr
            cases hr with
            | row0 A' hg hb hl => exact fin s g 0 0 zd es _ hzd hi hyx rfl (by simp [List.eq_nil_of_length_eq_zero (hlen.trans hl)]) (Nat.zero_le _) (Or.inl ⟨rfl, _, _, rfl⟩)
            | row hg hb =>
              have e1 : m.set s g (some (.rows (T e).size (List.replicate (κ.φ s g).len zd) false)) = m.set s g (some (.rows (T e).size (es.take 0 ++ List.replicate (κ.φ s g).len zd ++ es.drop (0 + (κ.φ s g).len)) false)) := by rw [← hlen]; simp
              exact fin s g 0 (κ.φ s g).len zd es _ hzd hi hyx rfl e1 (by omega) (Or.inr ⟨_, (κ.φ s g).cap, hb, by rw [Nat.zero_mul]⟩)
    · rename_i s g q n zd
      cases h with
      | rww hi h =>
        rename_i sz es
        dsimp only at h
        cases hbe : Nat.beq sz (T e).size
        · rw [hbe] at h; cases h
        · rw [hbe] at h
          have hbe := Nat.eq_of_beq_eq_true hbe
          subst hbe
          cases h with
          | wr h =>
            obtain ⟨rfl, rfl⟩ := ret_inv h
            obtain ⟨hlen, _, h3⟩ := hs.ok s g _ hi
            have hr := ev_rel he hx
            generalize hyx : a.eval x = yx at hr
            cases hr with
            | sub0 A' hg hb hl => exact fin s g 0 0 zd es _ hzd hi hyx rfl rfl (Nat.zero_le _) (Or.inl ⟨rfl, _, _, rfl⟩)
            | sub A' hg hb hA hn =>
              rcases h3 with ⟨h4, _⟩ | ⟨b', tt, cur, hb', hzz, _⟩
              · rw [h4] at hb; cases hb
              · refine fin s g q n zd es _ hzd hi hyx rfl rfl (by omega) ?_
                rcases hA with ⟨rfl, hA⟩ | rfl
                · exact Or.inl ⟨rfl, _, _, rfl⟩
                · exact Or.inr ⟨_, _, hb, by rw [hzz]⟩
    · cases h
end
end Go.Proofs.Ytlgadmholjaljaa
