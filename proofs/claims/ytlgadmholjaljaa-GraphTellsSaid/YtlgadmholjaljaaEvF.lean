/-
  Evaluation of Go code on plain data: the contract of a function that is given objects. Over any program.
-/
import Derived.Test.YtlgadmholjaljaaEvQ
namespace Go.Proofs.Ytlgadmholjaljaa
open Go.RowKit
/-- the objects that came in -/
def nthO : List AV → Nat → Option Inst
  | [], _ => none
  | _ :: _, 0 => none
  | a :: _, 1 => instC a
  | _ :: r, n + 2 => nthO r (n + 1)
def stO (is args : List AV) : ASt := ⟨nthA args, fun s g => bif Nat.beq g 1 && Nat.ble 1000001 s then nthO is (s - 1000000) else none, fun s => bif Nat.ble 1000001 s && Nat.ble s (1000000 + is.length) then 1 else 0⟩
/-- the cell of an object, at the end -/
def cell1 (m : Mem) (L : List (Nat × Nat)) (c d : AV) : Prop := match c, d with
  | .row s g _, .d (.fz es) => match m.at_ s g with
    | some (.rows _ es' true) => es' = es
    | _ => False
  | .nl, .d (.fz es) => es = []
  | c, d => ofC L d = some c
def cellE (m : Mem) (L : List (Nat × Nat)) : List AV → List AV → Prop
  | [], [] => True
  | c :: cs, d :: ds => cell1 m L c d ∧ cellE m L cs ds
  | _, _ => False
def objE (m : Mem) (L : List (Nat × Nat)) (i : Option Inst) (a : AV) : Prop := match a, i with
  | .ib ds, some (.box cs) => cellE m L cs ds
  | .im ck es, some (.mapi ck' es') => ck' = ck ∧ es' = es
  | _, _ => False
def objsE (m : Mem) (L : List (Nat × Nat)) : List (Nat × Nat) → List AV → Prop
  | [], [] => True
  | p :: l, a :: is => objE m L (m.at_ p.1 p.2) a ∧ objsE m L l is
  | _, _ => False
def canonF : Nat → Nat → List (Nat × Nat)
  | _, 0 => []
  | k, n + 1 => (k, 1) :: canonF (Nat.succ k) n
def canon (n : Nat) : List (Nat × Nat) := canonF 1000001 n
def retV (m : Mem) (L : List (Nat × Nat)) (vs : List AV) (v : AV) : Prop := match v with
  | .lp s g o => match vs with
    | [c] => ofC L (.lp s g o) = some c
    | _ => False
  | .mp s g => match vs with
    | [c] => ofC L (.mp s g) = some c
    | _ => False
  | .tup ps => match vs with
    | [_] => False
    | vs => retT m [] vs ps fun _ => True
  | v => match vs with
    | [c] => retC m [] c v fun _ => True
    | _ => False
/-- what is returned, and what is left of the objects: the new ones are named -/
def RetO (T : Nat → TI) (rs : List ResultVar) (is : List AV) (v : AV) (js : List AV) (st : ASt) : Prop := ∃ fl new, match frzM st.m fl with
  | some m => objsE m (canon is.length ++ new) (canon is.length ++ new) (mergeO is js) ∧ nodupL (canon is.length ++ new) = true ∧ valL T ⟨st.env, m⟩ rs fun vs => retV m (canon is.length ++ new) vs v
  | none => False
def EndO (T : Nat → TI) (rs : List ResultVar) (is : List AV) (v : AV) (js : List AV) : Ex → ASt → Prop
  | .normal, st => RetO T rs is v js st
  | .ret, st => RetO T rs is v js st
  | .exit _, _ => False
theorem canonF_len : ∀ k n, (canonF k n).length = n
  | _, 0 => rfl
  | k, n + 1 => by simp [canonF, canonF_len (k + 1) n]
theorem canon_len (n : Nat) : (canon n).length = n := canonF_len _ n
theorem canonF_get : ∀ {n i k : Nat}, i < n → (canonF k n)[i]? = some (k + i, 1)
  | n + 1, 0, k, h => by simp [canonF]
  | n + 1, i + 1, k, h => by
    have := canonF_get (n := n) (i := i) (k := k + 1) (by omega)
    simp only [canonF, List.getElem?_cons_succ, this]
    rw [show k + 1 + i = k + (i + 1) by omega]
theorem canon_get {n i : Nat} (h : i < n) : (canon n)[i]? = some (1000001 + i, 1) := canonF_get h
theorem nthO_get : ∀ (is : List AV) (i : Nat), nthO is (i + 1) = (is[i]?).bind instC
  | [], i => by simp [nthO]
  | a :: is, 0 => by simp [nthO]
  | a :: is, i + 1 => by
    have := nthO_get is i
    simp only [nthO, this]
    simp
theorem objsE_get {m : Mem} {L : List (Nat × Nat)} : ∀ {l : List (Nat × Nat)} {is : List AV}, objsE m L l is → l.length = is.length ∧ ∀ (i : Nat) (p : Nat × Nat) (a : AV), l[i]? = some p → is[i]? = some a → objE m L (m.at_ p.1 p.2) a
  | [], [], _ => ⟨rfl, fun i p a h => by simp at h⟩
  | p :: l, a :: is, h => by
    obtain ⟨q1, q2⟩ := objsE_get h.2
    refine ⟨by simp [q1], fun i p' a' hp ha => ?_⟩
    cases i with
    | zero =>
      simp at hp ha
      subst hp ha
      exact h.1
    | succ i => exact q2 i p' a' (by simpa using hp) (by simpa using ha)
  | [], _ :: _, h => h.elim
  | _ :: _, [], h => h.elim
theorem cellE_get {m : Mem} {L : List (Nat × Nat)} : ∀ {cs ds : List AV}, cellE m L cs ds → cs.length = ds.length ∧ ∀ (j : Nat) (c d : AV), cs[j]? = some c → ds[j]? = some d → cell1 m L c d
  | [], [], _ => ⟨rfl, fun i p a h => by simp at h⟩
  | p :: l, a :: is, h => by
    obtain ⟨q1, q2⟩ := cellE_get h.2
    refine ⟨by simp [q1], fun i p' a' hp ha => ?_⟩
    cases i with
    | zero =>
      simp at hp ha
      subst hp ha
      exact h.1
    | succ i => exact q2 i p' a' (by simpa using hp) (by simpa using ha)
  | [], _ :: _, h => h.elim
  | _ :: _, [], h => h.elim
theorem frzM_keep : ∀ (fl : List (Nat × Nat)) (m m' : Mem), frzM m fl = some m' → ∀ s g cs, m.at_ s g = some (.box cs) → m'.at_ s g = some (.box cs)
  | [], m, m', h, s, g, cs, hi => by
    injection h with h
    subst h
    exact hi
  | (x, y) :: r, m, m', h, s, g, cs, hi => by
    simp only [frzM] at h
    split at h
    · rename_i sz es ro hx
      refine frzM_keep r _ m' h s g cs ?_
      rw [setAt, if_neg]
      · exact hi
      · rintro ⟨rfl, rfl⟩
        rw [hx] at hi
        cases hi
    · cases h
section
variable {w0 : Start} {A : Nat → Prop} {m : Mem} {κ κ2 κc : Cx} {L : List (Nat × Nat)}
theorem cell1_rel (hs : Sim w0 A m κ) (hle : κ.Le κ2) (hw : κ2.w = κ.w) (hn : Nm κ2 κc L) (hS : ∀ b, κ2.S b → κc.S b) (hcw : κc.w = κ2.w) {c d : AV} (h : cell1 m L c d) {x : Value} (hr : Rel κ c x) : Rel κc d x := by
  have gen : ofC L d = some c → Rel κc d x := fun h => (ofC_name h).to hn hS hcw (hr.mono hle)
  have dat : ∀ {y : D}, RelD κ2.S κ2.w y x → Rel κc (.d y) x := fun h => .d (h.mono hS fun b _ => by rw [hcw])
  unfold cell1 at h
  split at h
  · rename_i s g n es
    split at h
    · rename_i sz es' hi
      subst h
      refine dat ?_
      rw [hw]
      exact (row_read hs hi hr hle.S fun b hb => hle.S b (hs.isS s g _ b hi hb rfl)).1
    · exact h.elim
  · subst h
    cases hr with
    | nl A' => exact dat (.fz0 _ _ fun _ => rfl)
  · exact gen h
theorem objE_inst (hs : Sim w0 A m κ) (hle : κ.Le κ2) (hw : κ2.w = κ.w) (hn : Nm κ2 κc L) (hS : ∀ b, κ2.S b → κc.S b) (hcw : κc.w = κ2.w) {s g : Nat} {a : AV} (h : objE m L (m.at_ s g) a) :
    ∃ i0 inst, m.at_ s g = some i0 ∧ i0.rw_ = true ∧ (∀ sz es ro, i0 ≠ .rows sz es ro) ∧ instC a = some inst ∧ InstOk κc (κ.φ s g) inst := by
  cases a with
  | ib ds =>
    cases hi : m.at_ s g with
    | none => rw [hi] at h; exact h.elim
    | some i =>
      rw [hi] at h
      cases i with
      | box cs =>
        have h : cellE m L cs ds := h
        obtain ⟨q1, q2⟩ := cellE_get h
        refine ⟨_, _, rfl, rfl, (fun _ _ _ e => by cases e), rfl, ?_⟩
        obtain ⟨b, T, vs, hb, hh, hsz, hr⟩ := hs.ok s g _ hi
        refine ⟨b, T, vs, hb, by rw [hcw, hw]; exact hh, hsz.trans q1, fun j d u hd hu => ?_⟩
        have hlt : j < cs.length := by rw [q1]; exact (List.getElem?_eq_some_iff.1 hd).1
        obtain ⟨k1, k2⟩ := hr j _ u (List.getElem?_eq_getElem hlt) hu
        exact ⟨cell1_rel hs hle hw hn hS hcw (q2 j _ d (List.getElem?_eq_getElem hlt) hd) k1, k2⟩
      | _ => exact h.elim
  | im ck es =>
    cases hi : m.at_ s g with
    | none => rw [hi] at h; exact h.elim
    | some i =>
      rw [hi] at h
      cases i with
      | mapi ck' es' =>
        have h : ck' = ck ∧ es' = es := h
        obtain ⟨rfl, rfl⟩ := h
        refine ⟨_, _, rfl, rfl, (fun _ _ _ e => by cases e), rfl, ?_⟩
        obtain ⟨b, ents, clock, hb, hh, hm, hst⟩ := hs.ok s g _ hi
        exact ⟨b, ents, clock, hb, by rw [hcw, hw]; exact hh, ⟨hm.1, fun j p e hp he => ⟨(hm.2 j p e hp he).1, ((hm.2 j p e hp he).2.1.mono hle.S hle.w).mono hS (fun b _ => by rw [hcw]), (hm.2 j p e hp he).2.2⟩⟩, hst⟩
      | _ => exact h.elim
  | _ => exact h.elim
end
section
variable {P : Program} {T : Nat → TI}
/-- THE CONTRACT OF A FUNCTION THAT IS GIVEN OBJECTS: its body, evaluated -/
theorem FnO.of_AW {dr : Prop} {jl : List Nat} {F : FuncId → List AV → AV → Prop} {base : Nat} (hm : P.follows .mixedOrders = true) (hT : TOk P T) (heq : ∀ t, (T t).eqs = true → (T t).known = true) (hF : ∀ f args r, F f args r → FnX dr P f args r) {f : FuncId} {fn : Func} {c : Code} {nt : Nat} {rs : List ResultVar} {is args : List AV} {v : AV} {js : List AV}
    (hcall : ∀ (args : Array Value) (w : World), (callFunc f args).run P w = .ok (.enter f args) w) (hf : P.funcs[f]? = some fn) (hb : fn.body = some c) (hnt : fn.ntmps = nt) (hrs : fn.results.toList = rs) (hargs : args.length ≤ nt) (hjs : is.length ≤ js.length)
    (h : AW T base nt F jl c (stO is args) (EndO T rs is v js)) : FnO dr P f is args (.hp (v :: js)) := by
  refine ⟨v, js, rfl, hjs, hcall, fun w A locs vals hI hA hobj htab hr => ?_⟩
  have hlen : vals.size = args.length := by simpa using hr.1
  have hat : ∀ s g i, (stO is args).m.at_ s g = some i → ∃ q a, s = 1000001 + q ∧ g = 1 ∧ is[q]? = some a ∧ instC a = some i := by
    intro s g i hi
    have hi : (bif Nat.beq g 1 && Nat.ble 1000001 s then nthO is (s - 1000000) else none) = some i := hi
    cases hq : (Nat.beq g 1 && Nat.ble 1000001 s)
    · rw [hq] at hi; cases hi
    · rw [hq] at hi
      rw [Bool.and_eq_true] at hq
      have h1 := Nat.eq_of_beq_eq_true hq.1
      have h2 := Nat.le_of_ble_eq_true hq.2
      have hi : nthO is (s - 1000000) = some i := hi
      rw [show s - 1000000 = (s - 1000001) + 1 by omega, nthO_get] at hi
      cases ha : is[s - 1000001]? with
      | none => rw [ha] at hi; cases hi
      | some a => rw [ha] at hi; exact ⟨s - 1000001, a, by omega, h1, ha, hi⟩
  have hrw : ∀ (a : AV) (i : Inst), instC a = some i → i.rw_ = true ∧ ∀ sz es ro, i ≠ .rows sz es ro := by
    intro a i h
    cases a <;> first | (injection h with h; subst h; exact ⟨rfl, fun _ _ _ e => by cases e⟩) | cases h
  let w0 : Start := ⟨w, fun c => ∃ i, i < is.length ∧ (locs (i + 1)).blk = some c, dr, hI, fun b ⟨i, hi, hb⟩ => htab i b hi hb, is.length, fun i => locs (i + 1)⟩
  have hgen : ∀ s, (stO is args).m.gen s = if 1000000 < s ∧ s ≤ 1000000 + is.length then 1 else 0 := by
    intro s
    have e : (stO is args).m.gen s = bif Nat.ble 1000001 s && Nat.ble s (1000000 + is.length) then 1 else 0 := rfl
    rw [e]
    by_cases h : 1000000 < s ∧ s ≤ 1000000 + is.length
    · rw [if_pos h, Nat.ble_eq_true_of_le (by omega : 1000001 ≤ s), Nat.ble_eq_true_of_le h.2]
      rfl
    · rw [if_neg h]
      cases h1 : Nat.ble 1000001 s
      · rfl
      · cases h2 : Nat.ble s (1000000 + is.length)
        · rfl
        · exact absurd ⟨Nat.le_of_ble_eq_true h1, Nat.le_of_ble_eq_true h2⟩ h
  have hsim : Sim w0 A (stO is args).m (cxO A w locs is.length) := by
    refine ⟨BelowX.refl _ _, ?_, ?_, ?_, ?_, ?_, ?_, ?_, fun c hc => ⟨hA c hc, Or.inl hc⟩, fun c hc => hc, fun i hi => ⟨cxO_φ .., cxO_gn _ _ _ hi⟩⟩
    · funext s
      exact (hgen s).symm
    · intro s g i hi
      obtain ⟨q, a, rfl, rfl, ha, hia⟩ := hat s g i hi
      obtain ⟨inst, e1, e2⟩ := hobj.ok q a ha
      have e1 : i = inst := Option.some.inj (hia.symm.trans e1)
      rw [e1]
      rw [cxO_φ A w locs is.length q]
      exact e2
    · intro s g i hi
      obtain ⟨q, a, hs, rfl, ha, hia⟩ := hat s g i hi
      have := (List.getElem?_eq_some_iff.1 ha).1
      rw [hgen s, if_pos ⟨by omega, by omega⟩]
      exact Nat.le_refl 1
    · intro s g i b hi hbk
      obtain ⟨q, a, rfl, rfl, ha, hia⟩ := hat s g i hi
      rw [cxO_φ A w locs is.length q] at hbk
      have hlt := (List.getElem?_eq_some_iff.1 ha).1
      exact ⟨Or.inr ⟨q, hlt, hbk⟩, (hobj.blk q b hlt hbk).1⟩
    · intro s g i b hi hbk _
      obtain ⟨q, a, rfl, rfl, ha, hia⟩ := hat s g i hi
      rw [cxO_φ A w locs is.length q] at hbk
      exact (hobj.blk q b (List.getElem?_eq_some_iff.1 ha).1 hbk).2
    · intro s g i b hi hbk hrw'
      obtain ⟨q, a, rfl, rfl, ha, hia⟩ := hat s g i hi
      rw [(hrw a i hia).1] at hrw'
      cases hrw'
    · intro s g i s' g' i' b hi hi' hb1 hb2 _
      obtain ⟨q, a, rfl, rfl, ha, hia⟩ := hat s g i hi
      obtain ⟨q', a', rfl, rfl, ha', hia'⟩ := hat s' g' i' hi'
      rw [cxO_φ A w locs is.length q] at hb1
      rw [cxO_φ A w locs is.length q'] at hb2
      have := hobj.sep q q' b (List.getElem?_eq_some_iff.1 ha).1 (List.getElem?_eq_some_iff.1 ha').1 hb1 hb2
      subst this
      exact ⟨rfl, rfl⟩
  refine calls_of_wp hf hb (wp_mono (AW_sound (w0 := w0) (A := A) hm hT heq hF c _ _ w ⟨stO is args, cxO A w locs is.length, rfl, hsim, ?_, ?_, rfl, h⟩) ?_)
  · intro t v ht
    have hn : ∀ (l : List AV) (t : Nat), nthA l t = l[t]? := by
      intro l
      induction l with
      | nil => intro t; cases t <;> rfl
      | cons x l ih => intro t; cases t with
        | zero => rfl
        | succ t => simp [nthA, ih]
    have ht : args[t]? = some v := by rw [← hn]; exact ht
    obtain ⟨x, hx, hrx⟩ := hr.get ht
    have hlt : t < vals.size := by rw [hlen]; exact (List.getElem?_eq_some_iff.1 ht).1
    refine ⟨x, ?_, hrx⟩
    rw [Array.getElem?_append_left hlt]
    simpa using hx
  · simp [hnt]
    omega
  · obtain ⟨hmlen, hmget⟩ := mergeO_get hjs
    have fin : ∀ a' w', Holds w0 A nt (RetO T rs is v js) a' w' → a'.defers = [] ∧ ∃ y, (results fn a'.tmps).run P w' = .ok y w' ∧ ∃ x S' locs' bs, Ending.returned y = Ending.returned x ∧ BelowX dr (fun c => ∃ i, i < is.length ∧ (locs (i + 1)).blk = some c) w w' ∧ (∀ b, S' b → b < w'.heap.size ∧ (A b ∨ w.heap.size ≤ b)) ∧ (∀ i, i < is.length → locs' (i + 1) = locs (i + 1)) ∧ ObjsOk S' w' locs' (mergeO is js) ∧
        (∀ i b, is.length ≤ i → i < js.length → (locs' (i + 1)).blk = some b → w.heap.size ≤ b) ∧ ResO (cxO S' w' locs' js.length) v x bs ∧ Apart bs ∧ ∀ b, some b ∈ bs → w.heap.size ≤ b ∧ b < w'.heap.size ∧ ¬ S' b ∧ ∀ i, i < js.length → (locs' (i + 1)).blk ≠ some b := by
      rintro a' w' ⟨st, κ, rfl, hs, he, hn, hd, hret⟩
      refine ⟨hd, ?_⟩
      obtain ⟨fl, new, hret⟩ := hret
      split at hret
      rotate_left
      · exact hret.elim
      rename_i m1 hfm
      obtain ⟨hobjs, hndl, hval⟩ := hret
      obtain ⟨κ1, s1, l1, w1⟩ := frzM_sim fl st.m κ m1 hs hfm
      obtain ⟨vs, ys, h1, h2, h3⟩ := valL_sound (P := P) hT (st := ⟨st.env, m1⟩) s1 (he.mono l1) rs _ hval
      rw [← w1]
      have hndl := nodupL_spec hndl
      generalize hL : canon is.length ++ new = L at hobjs hndl h3
      obtain ⟨hLlen, hLobj⟩ := objsE_get hobjs
      rw [hmlen] at hLlen
      have hLc : ∀ i, i < is.length → L[i]? = some (1000001 + i, 1) := fun i hi => by
        rw [← hL, List.getElem?_append_left (by rw [canon_len]; exact hi)]
        exact canon_get hi
      have hidx : ∀ {i : Nat}, i < js.length → ∃ p b, L[i]? = some p ∧ (mergeO is js)[i]? = some b := fun hi => ⟨_, _, List.getElem?_eq_getElem (by omega), List.getElem?_eq_getElem (by rw [hmlen]; exact hi)⟩
      let locs' : Nat → Loc := fun g => match L[g - 1]? with
        | some p => κ1.φ p.1 p.2
        | none => ⟨none, 0, 0, 0⟩
      have hloc0 : ∀ (i : Nat) (p : Nat × Nat), L[i]? = some p → locs' (i + 1) = κ1.φ p.1 p.2 := fun i p hp => by
        show (match L[i + 1 - 1]? with | some p => κ1.φ p.1 p.2 | none => _) = _
        rw [Nat.add_sub_cancel, hp]
      have hrun : (results fn a'.tmps).run P κ1.w = .ok (if hsz : ys.toArray.size = 1 then ys.toArray[0] else .tuple ys.toArray) κ1.w := by
        have e : results fn a'.tmps = (do let vs ← fn.results.mapM (resR a'.tmps); pure (if h : vs.size = 1 then vs[0] else .tuple vs)) := rfl
        rw [e, Array.mapM_eq_mapM_toList, hrs]
        simp only [Sem.run_bind, Sem.run_map, h1, Result.andThen_ok, Sem.run_pure]
      have nm : ∀ {m2 : Mem} {κ2 : Cx} {used : List (Nat × Nat)} {b2 : List (Option Nat)}, Taken w0 A m1 m2 κ1 κ2 used b2 → Nm κ2 (cxO κ2.S κ1.w locs' js.length) L := by
        intro m2 κ2 used b2 t1
        refine ⟨fun i p hp => ?_, fun i p hp => cxO_gn _ _ _ (by have := (List.getElem?_eq_some_iff.1 hp).1; omega), fun i p hp => ?_⟩
        · rw [cxO_φ, hloc0 i p hp, t1.φ]
        · obtain ⟨_, b, _, hb⟩ := hidx (i := i) (by have := (List.getElem?_eq_some_iff.1 hp).1; omega)
          have hoe := hLobj i p b hp hb
          have : ∃ i0, m1.at_ p.1 p.2 = some i0 := by
            cases hq : m1.at_ p.1 p.2 with
            | some i0 => exact ⟨i0, rfl⟩
            | none => rw [hq] at hoe; cases b <;> exact hoe.elim
          obtain ⟨i0, hi0⟩ := this
          exact Nat.le_trans (by rw [s1.gn]; exact s1.gens _ _ i0 hi0) (t1.le.gn _)
      have done : ∀ (m2 : Mem) (κ2 : Cx) (used : List (Nat × Nat)) (b2 : List (Option Nat)) (y : Value), Taken w0 A m1 m2 κ1 κ2 used b2 → (Nm κ2 (cxO κ2.S κ1.w locs' js.length) L → ResO (cxO κ2.S κ1.w locs' js.length) v y b2) →
          ∃ x S' locs' bs, Ending.returned y = Ending.returned x ∧ BelowX dr (fun c => ∃ i, i < is.length ∧ (locs (i + 1)).blk = some c) w κ1.w ∧ (∀ b, S' b → b < κ1.w.heap.size ∧ (A b ∨ w.heap.size ≤ b)) ∧ (∀ i, i < is.length → locs' (i + 1) = locs (i + 1)) ∧ ObjsOk S' κ1.w locs' (mergeO is js) ∧
            (∀ i b, is.length ≤ i → i < js.length → (locs' (i + 1)).blk = some b → w.heap.size ≤ b) ∧ ResO (cxO S' κ1.w locs' js.length) v x bs ∧ Apart bs ∧ ∀ b, some b ∈ bs → w.heap.size ≤ b ∧ b < κ1.w.heap.size ∧ ¬ S' b ∧ ∀ i, i < js.length → (locs' (i + 1)).blk ≠ some b := by
        intro m2 κ2 used b2 y t1 t2
        have hNm := nm t1
        have t2 := t2 hNm
        have hin : ∀ (i : Nat) (p : Nat × Nat) (b : AV), L[i]? = some p → (mergeO is js)[i]? = some b → ∃ i0 inst, m2.at_ p.1 p.2 = some i0 ∧ i0.rw_ = true ∧ (∀ sz es ro, i0 ≠ .rows sz es ro) ∧ instC b = some inst ∧ InstOk (cxO κ2.S κ1.w locs' js.length) (κ1.φ p.1 p.2) inst := by
          intro i p b hp hb
          obtain ⟨i0, inst, q1, q2, q3, q4, q5⟩ := objE_inst s1 t1.le t1.w hNm (fun _ h => h) t1.w.symm (hLobj i p b hp hb)
          refine ⟨i0, inst, ?_, q2, q3, q4, q5⟩
          rw [t1.keep _ _ fun sz es ro e => ?_]
          · exact q1
          · rw [q1] at e
            injection e with e
            exact q3 sz es ro e
        have hown : ∀ (i b : Nat), i < js.length → (locs' (i + 1)).blk = some b → ∃ p i0, L[i]? = some p ∧ m2.at_ p.1 p.2 = some i0 ∧ i0.rw_ = true ∧ (∀ sz es ro, i0 ≠ .rows sz es ro) ∧ (κ2.φ p.1 p.2).blk = some b := by
          intro i b hi hb
          obtain ⟨p, c, hp, hc⟩ := hidx hi
          obtain ⟨i0, inst, q1, q2, q3, q4, q5⟩ := hin i p c hp hc
          rw [hloc0 i p hp] at hb
          exact ⟨p, i0, hp, q1, q2, q3, by rw [t1.φ]; exact hb⟩
        have hpin : ∀ i, i < is.length → locs' (i + 1) = locs (i + 1) := fun i hi => by
          rw [hloc0 i _ (hLc i hi)]
          exact (s1.pin i hi).1
        refine ⟨y, κ2.S, locs', b2, rfl, s1.below, fun b hb => ?_, hpin, ⟨fun i b hb => ?_, fun i b hi hb => ?_, fun i j b hi hj hb hb' => ?_⟩, fun i b hge hi hb => ?_, t2, t1.apart, fun b hb => ?_⟩
        · obtain ⟨k1, k2⟩ := t1.sim.st b hb
          rw [t1.w] at k1
          refine ⟨k1, k2.imp id fun k3 => ?_⟩
          rcases k3 with k3 | ⟨i, hi, hbk⟩
          · exact k3
          · exfalso
            obtain ⟨p, i0, q0, q1, q2, q3, q4⟩ := hown i b (by omega) (by rw [hpin i hi]; exact hbk)
            exact t1.sim.notS _ _ i0 b q1 q4 q2 hb
        · obtain ⟨p, _, hp, _⟩ := hidx (i := i) (by rw [← hmlen]; exact (List.getElem?_eq_some_iff.1 hb).1)
          obtain ⟨i0, inst, q1, q2, q3, q4, q5⟩ := hin i p b hp hb
          rw [hmlen, hloc0 i p hp]
          exact ⟨inst, q4, q5⟩
        · rw [hmlen] at hi
          obtain ⟨p, i0, q0, q1, q2, q3, q4⟩ := hown i b hi hb
          have := (t1.sim.own _ _ i0 b q1 q4).2
          rw [t1.w] at this
          exact ⟨this, t1.sim.notS _ _ i0 b q1 q4 q2⟩
        · rw [hmlen] at hi hj
          obtain ⟨p, i0, q0, q1, q2, q3, q4⟩ := hown i b hi hb
          obtain ⟨p', i0', q0', q1', q2', q3', q4'⟩ := hown j b hj hb'
          have := t1.sim.sep _ _ i0 _ _ i0' b q1 q1' q4 q4' q2
          have e : p = p' := Prod.ext this.1 this.2
          subst e
          exact (List.getElem?_inj (List.getElem?_eq_some_iff.1 q0).1 hndl).1 (q0.trans q0'.symm)
        · obtain ⟨p, i0, q0, q1, q2, q3, q4⟩ := hown i b hi hb
          rcases (t1.sim.own _ _ i0 b q1 q4).1 with k3 | ⟨j, hj, hbk⟩
          · exact k3
          · exfalso
            obtain ⟨p', i0', q0', q1', q2', q3', q4'⟩ := hown j b (by omega) (by rw [hpin j hj]; exact hbk)
            have := t1.sim.sep _ _ i0 _ _ i0' b q1 q1' q4 q4' q2
            have e : p = p' := Prod.ext this.1 this.2
            subst e
            have := (List.getElem?_inj (List.getElem?_eq_some_iff.1 q0).1 hndl).1 (q0.trans q0'.symm)
            omega
        · obtain ⟨s, g, i, q1, q2, q3, q4, sz, es, rfl⟩ := t1.own b hb
          have hno : ∀ i, i < js.length → (locs' (i + 1)).blk ≠ some b := fun i hi e => by
            obtain ⟨p, i0, k0, k1, k2, k3, k4⟩ := hown i b hi e
            have := t1.sim.sep _ _ _ _ _ i0 b q2 k1 q4 k4 q3
            obtain ⟨rfl, rfl⟩ := this
            rw [q2] at k1
            injection k1 with k1
            exact k3 _ _ _ k1.symm
          have hlt := (t1.sim.own s g _ b q2 q4).2
          rw [t1.w] at hlt
          refine ⟨?_, hlt, t1.sim.notS s g _ b q2 q4 q3, hno⟩
          rcases (t1.sim.own s g _ b q2 q4).1 with k3 | ⟨j, hj, hbk⟩
          · exact k3
          · exact absurd (by rw [hpin j hj]; exact hbk) (hno j (by omega))
      have tk0 : Taken w0 A m1 m1 κ1 κ1 [] [] := ⟨s1, .refl κ1, rfl, rfl, fun _ _ _ => rfl, fun b hb => by simp at hb, fun _ _ _ => rfl, by simp [Apart]⟩
      have one : ∀ (c : AV), vs = [c] → ∃ y, ys = [y] ∧ Rel κ1 c y ∧ (results fn a'.tmps).run P κ1.w = .ok y κ1.w := by
        rintro c rfl
        obtain ⟨y, ys', rfl, hy, hys⟩ := h2.cons_inv
        have := hys.nil_inv
        subst this
        exact ⟨y, rfl, hy, hrun⟩
      have ptr : ∀ (x : AV) (c : AV), vs = [c] → ofC L x = some c → (∀ (κ : Cx) (y : Value), Rel κ x y → ResO κ v y []) → ∃ y, (results fn a'.tmps).run P κ1.w = .ok y κ1.w ∧ ∃ x S' locs' bs, Ending.returned y = Ending.returned x ∧ BelowX dr (fun c => ∃ i, i < is.length ∧ (locs (i + 1)).blk = some c) w κ1.w ∧ (∀ b, S' b → b < κ1.w.heap.size ∧ (A b ∨ w.heap.size ≤ b)) ∧ (∀ i, i < is.length → locs' (i + 1) = locs (i + 1)) ∧ ObjsOk S' κ1.w locs' (mergeO is js) ∧
            (∀ i b, is.length ≤ i → i < js.length → (locs' (i + 1)).blk = some b → w.heap.size ≤ b) ∧ ResO (cxO S' κ1.w locs' js.length) v x bs ∧ Apart bs ∧ ∀ b, some b ∈ bs → w.heap.size ≤ b ∧ b < κ1.w.heap.size ∧ ¬ S' b ∧ ∀ i, i < js.length → (locs' (i + 1)).blk ≠ some b := by
        intro x c hvs hx hR
        obtain ⟨y, _, hy, hrun⟩ := one c hvs
        exact ⟨y, hrun, done m1 κ1 [] [] y tk0 fun hNm => hR _ y ((ofC_name hx).to hNm (fun _ h => h) rfl hy)⟩
      have dat : (∀ s g o, v ≠ .lp s g o) → (∀ s g, v ≠ .mp s g) → (∀ ps, v ≠ .tup ps) → (∃ c, vs = [c] ∧ retC m1 [] c v fun _ => True) → ∃ y, (results fn a'.tmps).run P κ1.w = .ok y κ1.w ∧ ∃ x S' locs' bs, Ending.returned y = Ending.returned x ∧ BelowX dr (fun c => ∃ i, i < is.length ∧ (locs (i + 1)).blk = some c) w κ1.w ∧ (∀ b, S' b → b < κ1.w.heap.size ∧ (A b ∨ w.heap.size ≤ b)) ∧ (∀ i, i < is.length → locs' (i + 1) = locs (i + 1)) ∧ ObjsOk S' κ1.w locs' (mergeO is js) ∧
            (∀ i b, is.length ≤ i → i < js.length → (locs' (i + 1)).blk = some b → w.heap.size ≤ b) ∧ ResO (cxO S' κ1.w locs' js.length) v x bs ∧ Apart bs ∧ ∀ b, some b ∈ bs → w.heap.size ≤ b ∧ b < κ1.w.heap.size ∧ ¬ S' b ∧ ∀ i, i < js.length → (locs' (i + 1)).blk ≠ some b := by
        rintro n1 n2 n3 ⟨c, hvs, hrc⟩
        obtain ⟨y, _, hy, hrun⟩ := one c hvs
        obtain ⟨m2, κ2, used, b2, t1, t2, t3, t4, _⟩ := retC_sound tk0 hy hrc
        rw [List.nil_append] at t1
        refine ⟨y, hrun, done m2 κ2 used b2 y t1 fun _ => ?_⟩
        rw [t3] at t4
        cases v <;> first | exact t4 | exact absurd rfl (n1 _ _ _) | exact absurd rfl (n2 _ _) | exact absurd rfl (n3 _)
      cases v with
      | lp s g o =>
        cases vs with
        | nil => exact h3.elim
        | cons c vs =>
          cases vs with
          | nil => exact ptr _ c rfl h3 fun κ y h => ⟨h, rfl⟩
          | cons => exact h3.elim
      | mp s g =>
        cases vs with
        | nil => exact h3.elim
        | cons c vs =>
          cases vs with
          | nil => exact ptr _ c rfl h3 fun κ y h => ⟨h, rfl⟩
          | cons => exact h3.elim
      | tup ps =>
        have hne : vs.length ≠ 1 := by
          intro e
          cases vs with
          | nil => cases e
          | cons c vs => cases vs with
            | nil => exact h3.elim
            | cons => simp at e
        have h3 : retT m1 [] vs ps fun _ => True := by
          cases vs with
          | nil => exact h3
          | cons c vs => cases vs with
            | nil => exact h3.elim
            | cons => exact h3
        obtain ⟨m2, κ2, used, b2, t1, t2, t3, t4, _⟩ := retT_sound vs ps ys m1 κ1 [] [] _ tk0 h2 h3
        rw [List.nil_append] at t1
        have hsz : ¬ ys.toArray.size = 1 := by
          have := h2.1
          simp
          omega
        rw [dif_neg hsz] at hrun
        rw [t3] at t4
        exact ⟨_, hrun, done m2 κ2 used b2 _ t1 fun _ => ⟨_, rfl, t4⟩⟩
      | _ =>
        refine dat (fun _ _ _ e => by cases e) (fun _ _ e => by cases e) (fun _ e => by cases e) ?_
        cases vs with
        | nil => exact h3.elim
        | cons c vs =>
          cases vs with
          | nil => exact ⟨c, rfl, h3⟩
          | cons => exact h3.elim
    intro e a' w' hq
    cases e with
    | normal => exact fin a' w' hq
    | ret => exact fin a' w' hq
    | exit i => obtain ⟨_, _, _, _, _, _, _, h⟩ := hq; exact h.elim
    | goto l => exact hq.elim
    | panic ch => exact hq.elim
    | outgrown => exact hq.elim
end
end Go.Proofs.Ytlgadmholjaljaa
