/-
  slices.SortFunc at []int as a contract on plain data: the comparison is asked for the numbers of the list alone. Over any program.
-/
import Derived.Test.YtlgadmholjaljaaEvW
import Derived.Shelf.SlSortCmp.Kit1
namespace Go.Proofs.Ytlgadmholjaljaa
open Go.Shelf Go.RowKit Go.Lib Go.Sort
structure SortOkI (c : Int → Int → Option Int) (l : List Int) (cf : Int → Int → Int) : Prop where
  total : ∀ x ∈ l, ∀ y ∈ l, c x y = some (cf x y)
  swo : SWO (ltOf fun x y : { x : Int // x ∈ l } => cf x.1 y.1)
  anti : ∀ x ∈ l, ∀ y ∈ l, ltOf cf x y = false → ltOf cf y x = false → x = y
  size : l.length < 4611686018427387904
structure SortedI (cf : Int → Int → Int) (l r : List Int) : Prop where
  perm : r.Perm l
  pair : r.Pairwise fun x y => ltOf cf y x = false
open Classical in
noncomputable def sortI (c : Int → Int → Option Int) (l : List Int) : Option (List Int) := if h : ∃ r cf, SortOkI c l cf ∧ SortedI cf l r then some h.choose else none
theorem sortI_inv {c : Int → Int → Option Int} {l r : List Int} (h : sortI c l = some r) : ∃ cf, SortOkI c l cf ∧ SortedI cf l r := by
  unfold sortI at h
  split at h
  · rename_i hx
    injection h with h
    rw [← h]
    exact hx.choose_spec
  · cases h
theorem sortedI_one {c : Int → Int → Option Int} {l r r' : List Int} {cf cf' : Int → Int → Int} (h : SortOkI c l cf) (hr : SortedI cf l r) (h' : SortOkI c l cf') (hr' : SortedI cf' l r') : r = r' := by
  have same : ∀ x ∈ l, ∀ y ∈ l, ltOf cf x y = ltOf cf' x y := by
    intro x hx y hy
    have e := h.total x hx y hy
    rw [h'.total x hx y hy] at e
    injection e with e
    unfold ltOf
    rw [e]
  refine List.Perm.eq_of_pairwise (le := fun x y => ltOf cf y x = false) ?_ hr.pair ?_ (hr.perm.trans hr'.perm.symm)
  · intro a b ha hb h1 h2
    exact h.anti a (hr.perm.mem_iff.1 ha) b (hr'.perm.mem_iff.1 hb) h2 h1
  · refine hr'.pair.imp_of_mem fun {a b} ha hb hab => ?_
    rw [same b (hr'.perm.mem_iff.1 hb) a (hr'.perm.mem_iff.1 ha)]
    exact hab
theorem sortI_eq {c : Int → Int → Option Int} {l r : List Int} {cf : Int → Int → Int} (h : SortOkI c l cf) (hr : SortedI cf l r) : sortI c l = some r := by
  have hx : ∃ r cf, SortOkI c l cf ∧ SortedI cf l r := ⟨r, cf, h, hr⟩
  unfold sortI
  rw [dif_pos hx]
  obtain ⟨cf', h1, h2⟩ := hx.choose_spec
  rw [sortedI_one h1 h2 h hr]
theorem sortI_len {c : Int → Int → Option Int} {l r : List Int} (h : sortI c l = some r) : r.length = l.length := by
  obtain ⟨cf, _, h⟩ := sortI_inv h
  exact h.perm.length_eq
section
variable {dr : Prop} {P : Program} {f g : FuncId}
theorem sort_world_heap1 {α : Type} [Inhabited α] (enc : α → Value) (w : World) (blk off n : Nat) (d : Array α) (os : Array Obj) (hb : blk < w.heap.size) :
    (sortWorld enc w blk off n d os).os = w.os ∧ (sortWorld enc w blk off n d os).tape = w.tape ∧ (sortWorld enc w blk off n d os).output = w.output ∧ (sortWorld enc w blk off n d os).drawn = w.drawn + n ∧ w.heap.size ≤ (sortWorld enc w blk off n d os).heap.size ∧
    (∀ j, j < w.heap.size → j ≠ blk → (sortWorld enc w blk off n d os).heap[j]? = w.heap[j]?) ∧ ∀ c e fr, w.heap[blk]? = some (.cells c e fr) → (sortWorld enc w blk off n d os).heap[blk]? = some (.cells (Go.Sort.putCells enc off d c) e fr) := by
  refine ⟨rfl, rfl, rfl, rfl, ?_, fun j hj hne => ?_, fun c e fr hc => ?_⟩
  · show _ ≤ ((w.heap.modify blk _) ++ os).size
    simp
  · show ((w.heap.modify blk _) ++ os)[j]? = _
    rw [Array.getElem?_append, if_pos (by simpa using hj), Array.getElem?_modify, if_neg (fun e => hne e.symm)]
  · show ((w.heap.modify blk _) ++ os)[blk]? = _
    rw [Array.getElem?_append, if_pos (by simpa using hb), Array.getElem?_modify, if_pos rfl, hc]
    rfl
theorem sortI_fnw {c : Int → Int → Option Int} {gc : List AV}
    (he : ∀ (args : Array Value) (w : World), (callFunc f args).run P w = .ok (.enter f args) w)
    (hs : ∀ (α : Type) (_ : Inhabited α) (enc : α → Value) (_ : ∀ x, (enc x).oneCell' = true) (cf : α → α → Int) (_ : SWO (ltOf cf)) (g : Nat) (cb : Array Value) (blk off cap : Nat) (d : Array α) (w : World)
      (_ : ∀ args w, (callFunc g args).run P w = .ok (.enter g args) w) (_ : CmpLays1 P g cb enc cf blk off d.size w) (_ : Go.Sort.Holds enc w blk off d) (_ : blk < w.heap.size) (_ : d.size < 4611686018427387904),
      Calls P f #[.slice (some ⟨blk, off, none⟩) d.size cap, .func (.func g) #[] cb] w fun e w' => e = .returned (.tuple #[]) ∧ ∃ d' n os, PermIn 0 d.size d d' ∧ SortedIn (ltOf cf) 0 d.size d' ∧ w' = sortWorld enc w blk off n d' os)
    (hn : ∀ (p : Option Addr) (cap : Nat) (fv : Value) (w : World), Calls P f #[.slice p 0 cap, fv] w fun e w' => e = .returned (.tuple #[]) ∧ w' = w)
    (_hgc : gc.all capd = true) (hP : ∀ x y z, c x y = some z → Fn True P g ([.d (.v (.int .i64 x)), .d (.v (.int .i64 y))] ++ gc) (.d (.v (.int .i64 z))))
    {l r : List Int} (h : sortI c l = some r) : FnW dr P f 1 (l.map (encI .i64)) [.fn g gc] (.ow 1 (r.map (encI .i64))) := by
  obtain ⟨cf, hok, hsd⟩ := sortI_inv h
  refine ⟨he, ?_⟩
  intro w U S sl b vals hI hnT hU hSU hown hb hrel
  obtain ⟨fv, vs', hvs, hfv, hnil⟩ := hrel.cons_inv
  have := hnil.nil_inv
  subst this
  have hvals : vals = #[fv] := by apply Array.ext'; simpa using hvs
  subst hvals
  obtain ⟨cb, rfl, hcb⟩ : ∃ cb : Array Value, fv = .func (.func g) #[] cb ∧ RelL (cx0 U w) gc cb.toList := by
    cases hfv with
    | @fn _ _ vs hl hh => exact ⟨vs, rfl, by simpa using hl, fun j c v hc hv => hh j c v hc (by simpa using hv)⟩
  by_cases hl : l = []
  · subst hl
    have hr0 : r = [] := hsd.perm.eq_nil
    subst hr0
    have hown' := hown
    obtain ⟨h1, h2⟩ := hown'
    obtain ⟨p, cap, rfl⟩ : ∃ p cap, sl = .slice p 0 cap := by
      rcases h2 with ⟨_, _, A', rfl⟩ | ⟨_, _, _, cap, _, rfl, _⟩
      · exact ⟨A', 0, rfl⟩
      · exact ⟨_, cap, rfl⟩
    refine (hn p cap _ w).mono ?_
    rintro e w' ⟨rfl, rfl⟩
    exact ⟨_, rfl, ⟨rfl, rfl, rfl, Nat.le_refl _, fun _ _ _ => rfl, fun _ => Nat.le_refl _⟩, rfl, S, fun c hc => ⟨hU c (hSU c hc), Or.inl hc⟩, by simpa using hown, fun c hc hS => (hb c hc).2 (hSU c hS)⟩
  · obtain ⟨h1, h2⟩ := hown
    rcases h2 with ⟨_, h2, _⟩ | ⟨blk, T, cur, cap, rfl, rfl, hh, hle, hm, hcs, hra⟩
    · simp [hl] at h2
    obtain ⟨hblk, hnU⟩ := hb blk rfl
    rw [List.length_map] at hle ⊢
    rw [Nat.mul_one] at hcs
    have hval : ∀ i (hi : i < l.length), cur[i]? = some (.int .i64 l[i]) := by
      intro i hi
      obtain ⟨u, hu, hr⟩ := hra i 0 (encI .i64 l[i]) (.v (.int .i64 l[i])) (by simp [hi]) rfl
      rw [Nat.mul_one, Nat.add_zero] at hu
      cases hr with
      | v _ _ => exact hu
    let α := { x : Int // x ∈ l }
    have hpos : 0 < l.length := List.length_pos_iff.2 hl
    have inh : Inhabited α := ⟨⟨l[0], List.getElem_mem hpos⟩⟩
    let encα : α → Value := fun p => .int .i64 p.1
    let cfα : α → α → Int := fun p q => cf p.1 q.1
    obtain ⟨d, hds, hdg⟩ : ∃ d : Array α, d.size = l.length ∧ ∀ i (hi : i < l.length), d[i]! = ⟨l[i], List.getElem_mem hi⟩ := by
      refine ⟨Array.ofFn fun i : Fin l.length => ⟨l[i], List.getElem_mem i.2⟩, by simp, fun i hi => ?_⟩
      rw [getElem!_pos _ i (by simpa using hi)]
      simp
    have hO : SWO (ltOf cfα) := hok.swo
    have eg : ∀ args w, (callFunc g args).run P w = .ok (.enter g args) w := (hP l[0] l[0] _ (hok.total _ (List.getElem_mem hpos) _ (List.getElem_mem hpos))).1
    have hH : Go.Sort.Holds encα w blk 0 d := by
      intro j hj
      rw [hds] at hj
      rw [hdg j hj, Nat.zero_add]
      have hjc : j < cur.size := by rw [hcs]; omega
      obtain ⟨k1, k2⟩ := cell_of_heap hh j hjc
      refine ⟨?_, k2⟩
      rw [k1]
      have := hval j hj
      simp only [Array.getD_eq_getD_getElem?, this, Option.getD_some]
      rfl
    have hcmp : CmpLays1 P g cb encα cfα blk 0 d.size w := by
      intro m os dk hdk x y
      obtain ⟨q1, q2, q3, q4, q5, q6, q7⟩ := sort_world_heap1 encα w blk 0 m dk os hblk
      generalize sortWorld encα w blk 0 m dk os = W at q1 q2 q3 q4 q5 q6 q7
      have hle : (cx0 U w).Le (cx0 U W) := ⟨fun _ => Nat.le_refl _, fun _ _ _ => rfl, fun _ h => h, fun c hc => q6 c (hU c hc) fun e => hnU (e ▸ hc)⟩
      refine ((hP x.1 y.1 _ (hok.total _ x.2 _ y.2)).2 W U _ (hI.keep fun k hk => q6 k (hI.lt hk) fun e => hnT blk rfl (e ▸ hk)) (fun c hc => Nat.lt_of_lt_of_le (hU c hc) q5) ?_).mono ?_
      · have : (#[encα x, encα y] ++ cb).toList = [encα x, encα y] ++ cb.toList := by simp
        rw [this]
        exact RelL.append (.cons (.d (.v _ rfl)) (.cons (.d (.v _ rfl)) (.nil _))) (hcb.mono hle)
      · rintro e w' ⟨v, S', bs, rfl, hbel, _, hres, _⟩
        obtain ⟨b, _, hres, _⟩ := hres
        refine ⟨?_, below_grow hbel⟩
        cases hres with
        | v _ _ => rfl
    have hcall := hs α inh encα (fun _ => rfl) cfα hO g cb blk 0 cap d w eg hcmp hH hblk (by rw [hds]; exact hok.size)
    have e2 : (#[Value.slice (some ⟨blk, 0, none⟩) l.length cap] ++ #[.func (.func g) #[] cb]) = #[.slice (some ⟨blk, 0, none⟩) d.size cap, .func (.func g) #[] cb] := by rw [hds]; rfl
    rw [e2]
    refine hcall.mono ?_
    rintro e w' ⟨rfl, d', n, os, hperm, hsort, rfl⟩
    obtain ⟨q1, q2, q3, q4, q5, q6, q7⟩ := sort_world_heap1 encα w blk 0 n d' os hblk
    have hd's : d'.size = l.length := hperm.1.trans hds
    have hcur := q7 cur T (0, 0) hh
    have hlist : (d'.toList.map fun p => p.1) = r := by
      have hp1 : d'.toList.Perm d.toList := by
        have := hperm.2.2
        have e1 : d'.extract 0 d.size = d' := by rw [← hperm.1]; exact Array.extract_size
        rw [e1, Array.extract_size] at this
        exact this
      have hdl : d.toList.map (fun p => p.1) = l := by
        apply List.ext_getElem?
        intro i
        rw [List.getElem?_map]
        by_cases hi : i < l.length
        · rw [List.getElem?_eq_getElem hi, List.getElem?_eq_getElem (by simpa using (by rw [hds]; exact hi))]
          have := hdg i hi
          rw [getElem!_pos d i (by rw [hds]; exact hi)] at this
          simp [this]
        · have n1 : d.toList[i]? = none := List.getElem?_eq_none (by rw [Array.length_toList, hds]; omega)
          have n2 : l[i]? = none := List.getElem?_eq_none (by omega)
          rw [n1, n2]
          rfl
      have hp2 := hp1.map fun p => p.1
      rw [hdl] at hp2
      refine sortedI_one hok ⟨hp2, ?_⟩ hok hsd
      rw [List.pairwise_map, List.pairwise_iff_getElem]
      intro i j hi hj hij
      have := hsort i j (Nat.zero_le _) hij (by rw [hds, ← hd's]; simpa using hj)
      rw [getElem!_pos d' j (by simpa using hj), getElem!_pos d' i (by simpa using hi)] at this
      simp only [Array.getElem_toList]
      exact this
    refine ⟨_, rfl, ⟨q1, q2, q3, q5, fun k hk hne => q6 k hk fun e => hne (by rw [e]), by rw [q4]; omega⟩, rfl, S, fun c hc => ⟨Nat.lt_of_lt_of_le (hU c (hSU c hc)) q5, Or.inl hc⟩, ?_, fun c hc hS => by injection hc with hc; subst hc; exact hnU (hSU _ hS)⟩
    have hrl : r.length = l.length := hsd.perm.length_eq
    refine ⟨fun e he => by obtain ⟨x, _, rfl⟩ := List.mem_map.1 he; rfl, Or.inr ⟨blk, T, _, cap, rfl, by simp [hrl], hcur, by simpa [hrl] using hle, hm, by simp [Go.Sort.putCells, hcs], fun i j e x hei hxj => ?_⟩⟩
    rw [← hlist, List.getElem?_map, List.getElem?_map] at hei
    cases hq : d'.toList[i]? with
    | none => rw [hq] at hei; simp at hei
    | some p =>
      rw [hq] at hei
      simp only [Option.map_some, Option.some.injEq] at hei
      subst hei
      have hi : i < l.length := by
        have := (List.getElem?_eq_some_iff.1 hq).1
        rw [← hd's]
        simpa using this
      have hj : j = 0 := by
        have h0 : j < 1 := (List.getElem?_eq_some_iff.1 hxj).1
        omega
      subst hj
      have hxv : x = .v (.int .i64 p.1) := by
        simp only [encI, List.getElem?_cons_zero, Option.some.injEq] at hxj
        exact hxj.symm
      subst hxv
      have hlt2 : i < cur.size := by rw [hcs]; omega
      refine ⟨.int .i64 p.1, ?_, .v _ rfl⟩
      rw [Nat.mul_one, Nat.add_zero]
      unfold Go.Sort.putCells
      rw [Array.getElem?_mapIdx, Array.getElem?_eq_getElem hlt2]
      simp only [Option.map_some, Nat.zero_le, true_and, Nat.zero_add, hd's, hi, if_true, Nat.sub_zero]
      have : d'[i]! = p := by
        have hi2 : i < d'.size := by rw [hd's]; exact hi
        rw [getElem!_pos d' i hi2]
        have := hq
        rw [Array.getElem?_toList, Array.getElem?_eq_getElem hi2] at this
        injection this
      rw [this]
/-- slices.Sort at []int -/
def sortL (l : List Int) : Option (List Int) := (chkO (decide (l.length < 4611686018427387904))).bind fun _ => some (l.mergeSort fun x y => decide (x ≤ y))
theorem sortL_inv {l r : List Int} (h : sortL l = some r) : l.length < 4611686018427387904 ∧ r = l.mergeSort fun x y => decide (x ≤ y) := by
  unfold sortL at h
  obtain ⟨h1, h2⟩ := chkE_ h
  injection h2 with h2
  exact ⟨of_decide_eq_true h1, h2.symm⟩
theorem sortL_len {l r : List Int} (h : sortL l = some r) : r.length = l.length := by
  obtain ⟨_, rfl⟩ := sortL_inv h
  exact List.length_mergeSort _
theorem sortL_fnw (he : ∀ (args : Array Value) (w : World), (callFunc f args).run P w = .ok (.enter f args) w)
    (hs : ∀ (blk off cap : Nat) (zs : List Int) (w : World) (_ : Go.Sort.Holds (Value.int .i64) w blk off zs.toArray) (_ : blk < w.heap.size) (_ : zs.length < 4611686018427387904),
      Calls P f #[.slice (some ⟨blk, off, none⟩) zs.length cap] w fun e w' => e = .returned (.tuple #[]) ∧ ∃ n os, w' = grow (putRow (Value.int .i64) (Sort.ahead w n) blk off (zs.mergeSort fun x y => decide (x ≤ y)).toArray) os)
    (hn : ∀ (p : Option Addr) (cap : Nat) (w : World), Calls P f #[.slice p 0 cap] w fun e w' => e = .returned (.tuple #[]) ∧ w' = w)
    {l r : List Int} (h : sortL l = some r) : FnW dr P f 1 (l.map (encI .i64)) [] (.ow 1 (r.map (encI .i64))) := by
  obtain ⟨hsz, rfl⟩ := sortL_inv h
  refine ⟨he, ?_⟩
  intro w U S sl b vals hI hnT hU hSU hown hb hrel
  have hv0 : vals = #[] := by
    have := hrel.nil_inv
    apply Array.ext'
    simpa using this
  subst hv0
  by_cases hl : l = []
  · subst hl
    have hown' := hown
    obtain ⟨h1, h2⟩ := hown'
    obtain ⟨p, cap, rfl⟩ : ∃ p cap, sl = .slice p 0 cap := by
      rcases h2 with ⟨_, _, A', rfl⟩ | ⟨_, _, _, cap, _, rfl, _⟩
      · exact ⟨A', 0, rfl⟩
      · exact ⟨_, cap, rfl⟩
    refine (hn p cap w).mono ?_
    rintro e w' ⟨rfl, rfl⟩
    exact ⟨_, rfl, ⟨rfl, rfl, rfl, Nat.le_refl _, fun _ _ _ => rfl, fun _ => Nat.le_refl _⟩, rfl, S, fun c hc => ⟨hU c (hSU c hc), Or.inl hc⟩, by simpa using hown, fun c hc hS => (hb c hc).2 (hSU c hS)⟩
  · obtain ⟨h1, h2⟩ := hown
    rcases h2 with ⟨_, h2, _⟩ | ⟨blk, T, cur, cap, rfl, rfl, hh, hle, hm, hcs, hra⟩
    · simp [hl] at h2
    obtain ⟨hblk, hnU⟩ := hb blk rfl
    rw [List.length_map] at hle ⊢
    rw [Nat.mul_one] at hcs
    have hval : ∀ i (hi : i < l.length), cur[i]? = some (.int .i64 l[i]) := by
      intro i hi
      obtain ⟨u, hu, hr⟩ := hra i 0 (encI .i64 l[i]) (.v (.int .i64 l[i])) (by simp [hi]) rfl
      rw [Nat.mul_one, Nat.add_zero] at hu
      cases hr with
      | v _ _ => exact hu
    have hH : Go.Sort.Holds (Value.int .i64) w blk 0 l.toArray := by
      intro j hj
      have hj : j < l.length := by simpa using hj
      rw [Nat.zero_add]
      have hjc : j < cur.size := by rw [hcs]; omega
      obtain ⟨k1, k2⟩ := cell_of_heap hh j hjc
      refine ⟨?_, k2⟩
      rw [k1]
      have := hval j hj
      simp only [Array.getD_eq_getD_getElem?, this, Option.getD_some]
      rw [getElem!_pos l.toArray j (by simpa using hj)]
      simp
    refine (hs blk 0 cap l w hH hblk hsz).mono ?_
    rintro e w' ⟨rfl, n, os, rfl⟩
    obtain ⟨q1, q2, q3, q4, q5, q6, q7⟩ := sort_world_heap1 (Value.int .i64) w blk 0 n (l.mergeSort fun x y => decide (x ≤ y)).toArray os hblk
    have hcur := q7 cur T (0, 0) hh
    have hrl : (l.mergeSort fun x y => decide (x ≤ y)).length = l.length := List.length_mergeSort _
    generalize (l.mergeSort fun x y => decide (x ≤ y)) = r at q1 q2 q3 q4 q5 q6 hcur hrl ⊢
    refine ⟨_, rfl, ⟨q1, q2, q3, q5, fun k hk hne => q6 k hk fun e => hne (by rw [e]), fun _ => by show _ ≤ (sortWorld (Value.int .i64) w blk 0 n r.toArray os).drawn; rw [q4]; omega⟩, rfl, S, fun c hc => ⟨Nat.lt_of_lt_of_le (hU c (hSU c hc)) q5, Or.inl hc⟩, ?_, fun c hc hS => by injection hc with hc; subst hc; exact hnU (hSU _ hS)⟩
    refine ⟨fun e he => by obtain ⟨x, _, rfl⟩ := List.mem_map.1 he; rfl, Or.inr ⟨blk, T, _, cap, rfl, by simp [hrl], hcur, by simpa [hrl] using hle, hm, by simp [Go.Sort.putCells, hcs], fun i j e x hei hxj => ?_⟩⟩
    rw [List.getElem?_map] at hei
    cases hq : r[i]? with
    | none => rw [hq] at hei; simp at hei
    | some p =>
      rw [hq] at hei
      simp only [Option.map_some, Option.some.injEq] at hei
      subst hei
      obtain ⟨hi, hpi⟩ := List.getElem?_eq_some_iff.1 hq
      have hj : j = 0 := by
        have h0 : j < 1 := (List.getElem?_eq_some_iff.1 hxj).1
        omega
      subst hj
      have hxv : x = .v (.int .i64 p) := by
        simp only [encI, List.getElem?_cons_zero, Option.some.injEq] at hxj
        exact hxj.symm
      subst hxv
      have hlt2 : i < cur.size := by rw [hcs]; omega
      refine ⟨.int .i64 p, ?_, .v _ rfl⟩
      rw [Nat.mul_one, Nat.add_zero]
      unfold Go.Sort.putCells
      rw [Array.getElem?_mapIdx, Array.getElem?_eq_getElem hlt2]
      have hi2 : i < r.toArray.size := by simpa using hi
      simp only [Option.map_some, Nat.zero_le, true_and, Nat.zero_add, hi2, if_true, Nat.sub_zero]
      rw [getElem!_pos r.toArray i hi2]
      simp [hpi]
end
end Go.Proofs.Ytlgadmholjaljaa
