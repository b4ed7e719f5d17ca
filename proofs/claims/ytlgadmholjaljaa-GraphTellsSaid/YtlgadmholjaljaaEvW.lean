/-
  slices.SortFunc as a contract on plain data: a row of the caller's own is sorted in place. Over any program.
-/
import Derived.Test.YtlgadmholjaljaaEvT
import Derived.Shelf.SlSortCmp.InsertionK
namespace Go.Proofs.Ytlgadmholjaljaa
open Go.Shelf Go.RowKit Go.Lib Go.Sort
/-- what a sort does to a list, where the comparison is total and parts whatever two items are not one -/
structure SortOk {A : Type} (c : A → A → Option Int) (l : List A) (cf : A → A → Int) : Prop where
  total : ∀ x y, c x y = some (cf x y)
  swo : SWO (ltOf cf)
  anti : ∀ x ∈ l, ∀ y ∈ l, ltOf cf x y = false → ltOf cf y x = false → x = y
  size : l.length < 4611686018427387904
open Classical in
noncomputable def sortF {A : Type} (c : A → A → Option Int) (l : List A) : Option (List A) := if h : ∃ cf, SortOk c l cf then some (l.mergeSort fun x y => !(ltOf h.choose y x)) else none
theorem sortF_eq {A : Type} {c : A → A → Option Int} {l : List A} {cf : A → A → Int} (h : SortOk c l cf) : sortF c l = some (l.mergeSort fun x y => !(ltOf cf y x)) := by
  have hx : ∃ cf, SortOk c l cf := ⟨cf, h⟩
  unfold sortF
  rw [dif_pos hx]
  have : hx.choose = cf := by
    funext x y
    have h1 := hx.choose_spec.total x y
    rw [h.total x y] at h1
    injection h1 with h1
    exact h1.symm
  rw [this]
theorem sortF_inv {A : Type} {c : A → A → Option Int} {l r : List A} (h : sortF c l = some r) : ∃ cf, SortOk c l cf ∧ r = l.mergeSort fun x y => !(ltOf cf y x) := by
  unfold sortF at h
  split at h
  · rename_i hx
    injection h with h
    exact ⟨_, hx.choose_spec, h.symm⟩
  · cases h
theorem sortF_len {A : Type} {c : A → A → Option Int} {l r : List A} (h : sortF c l = some r) : r.length = l.length := by
  obtain ⟨cf, _, rfl⟩ := sortF_inv h
  exact List.length_mergeSort _
/-- where nothing but draws and new blocks has come, the world is written out -/
theorem below_grow {w w' : World} (h : BelowD True w.heap.size w w') : ∃ q os, w' = grow (w.drewN q) os := by
  refine ⟨w'.drawn - w.drawn, w'.heap.extract w.heap.size w'.heap.size, ?_⟩
  have hh : w'.heap = w.heap ++ w'.heap.extract w.heap.size w'.heap.size := by
    apply Array.ext_getElem?
    intro k
    rw [Array.getElem?_append]
    split
    · rename_i hk
      exact h.block k hk
    · rename_i hk
      rw [Array.getElem?_extract]
      split
      · rename_i h2
        congr 1
        omega
      · rename_i h2
        rw [Array.getElem?_eq_none]
        simp at h2
        omega
  have hd : w.drawn + (w'.drawn - w.drawn) = w'.drawn := by have := h.drawn trivial; omega
  have h1 := h.os
  have h2 := h.tape
  have h3 := h.output
  unfold grow World.drewN
  cases w
  cases w'
  simp only at hh hd h1 h2 h3 ⊢
  subst h1 h2 h3
  rw [hd, ← hh]
section
variable {dr : Prop} {P : Program} {f g : FuncId} {sz : Nat} {A : Type}
/-- an item, and the cells that hold it -/
def Cell (enc : A → List D) (S : Nat → Prop) (w : World) (sz : Nat) (p : A × List Value) : Prop := p.2.length = sz ∧ ∀ (j : Nat) (d : D) (v : Value), (enc p.1)[j]? = some d → p.2[j]? = some v → RelD S w d v
theorem sort_world_heap {α : Type} [Inhabited α] (enc : α → List Value) (k : Nat) (w : World) (blk off n : Nat) (d : Array α) (os : Array Obj) (hb : blk < w.heap.size) :
    (sortWorldK enc k w blk off n d os).os = w.os ∧ (sortWorldK enc k w blk off n d os).tape = w.tape ∧ (sortWorldK enc k w blk off n d os).output = w.output ∧ (sortWorldK enc k w blk off n d os).drawn = w.drawn + n ∧ w.heap.size ≤ (sortWorldK enc k w blk off n d os).heap.size ∧
    (∀ j, j < w.heap.size → j ≠ blk → (sortWorldK enc k w blk off n d os).heap[j]? = w.heap[j]?) ∧ ∀ c e fr, w.heap[blk]? = some (.cells c e fr) → (sortWorldK enc k w blk off n d os).heap[blk]? = some (.cells (Go.Sort.putCells id off (flatK enc k d) c) e fr) := by
  refine ⟨rfl, rfl, rfl, rfl, ?_, fun j hj hne => ?_, fun c e fr hc => ?_⟩
  · show _ ≤ ((w.heap.modify blk _) ++ os).size
    simp
  · show ((w.heap.modify blk _) ++ os)[j]? = _
    rw [Array.getElem?_append, if_pos (by simpa using hj), Array.getElem?_modify, if_neg (fun e => hne e.symm)]
  · show ((w.heap.modify blk _) ++ os)[blk]? = _
    rw [Array.getElem?_append, if_pos (by simpa using hb), Array.getElem?_modify, if_pos rfl, hc]
    rfl
theorem cell_of_heap {w : World} {b : Nat} {c : Array Value} {T : TypeId} (h : w.heap[b]? = some (.cells c T (0, 0))) (j : Nat) (hj : j < c.size) : w.cell? ⟨b, j, none⟩ = some (c.getD j undef) ∧ w.frozen? ⟨b, j, none⟩ = false := by
  refine ⟨?_, ?_⟩
  · rw [cell_of_row _ _ _ c T (0, 0) h]
    simp [Array.getD, hj]
  · unfold World.frozen?
    simp [h]
theorem sortF_fnw (enc : A → List D) (hz : ∀ x, (enc x).length = sz) (hz0 : 0 < sz) {c : A → A → Option Int} {gc : List AV}
    (he : ∀ (args : Array Value) (w : World), (callFunc f args).run P w = .ok (.enter f args) w)
    (hs : ∀ (α : Type) (_ : Inhabited α) (enc : α → List Value) (_ : ∀ x, (enc x).length = sz) (_ : ∀ x, ∀ v ∈ enc x, v.oneCell' = true) (cf : α → α → Int) (_ : SWO (ltOf cf)) (g : Nat) (cb : Array Value) (blk off cap : Nat) (d : Array α) (w : World)
      (_ : ∀ args w, (callFunc g args).run P w = .ok (.enter g args) w) (_ : CmpLays P g cb enc sz cf blk off d.size w) (_ : HoldsK enc sz w blk off d) (_ : blk < w.heap.size) (_ : d.size < 4611686018427387904),
      Calls P f #[.slice (some ⟨blk, off, none⟩) d.size cap, .func (.func g) #[] cb] w fun e w' => e = .returned (.tuple #[]) ∧ ∃ d' n os, PermIn 0 d.size d d' ∧ SortedIn (ltOf cf) 0 d.size d' ∧ w' = sortWorldK enc sz w blk off n d' os)
    (hn : ∀ (p : Option Addr) (cap : Nat) (fv : Value) (w : World), Calls P f #[.slice p 0 cap, fv] w fun e w' => e = .returned (.tuple #[]) ∧ w' = w)
    (_hgc : gc.all capd = true) (hP : ∀ x y z, c x y = some z → Fn True P g ([.agg ((enc x).map .d), .agg ((enc y).map .d)] ++ gc) (.d (.v (.int .i64 z))))
    {l r : List A} (h : sortF c l = some r) : FnW dr P f sz (l.map enc) [.fn g gc] (.ow sz (r.map enc)) := by
  obtain ⟨cf, hok, rfl⟩ := sortF_inv h
  refine ⟨he, ?_⟩
  intro w U S sl b vals hI hnT hU hSU hown hb hrel
  obtain ⟨fv, vs', hvs, hfv, hnil⟩ := hrel.cons_inv
  have := hnil.nil_inv
  subst this
  have hvals : vals = #[fv] := by apply Array.ext'; simpa using hvs
  subst hvals
  obtain ⟨cb, rfl, hcb⟩ : ∃ cb : Array Value, fv = .func (.func g) #[] cb ∧ RelL (cx0 U w) gc cb.toList := by
    cases hfv with
    | @fn _ _ vs hl hh => exact ⟨vs, rfl, by simpa using hl, fun j c v hc hv => hh j c v hc (by simpa using hv)⟩
  by_cases hl : l = []
  · subst hl
    have hown' := hown
    obtain ⟨h1, h2⟩ := hown'
    obtain ⟨p, cap, rfl⟩ : ∃ p cap, sl = .slice p 0 cap := by
      rcases h2 with ⟨_, _, A', rfl⟩ | ⟨_, _, _, cap, _, rfl, _⟩
      · exact ⟨A', 0, rfl⟩
      · exact ⟨_, cap, rfl⟩
    refine (hn p cap _ w).mono ?_
    rintro e w' ⟨rfl, rfl⟩
    refine ⟨_, rfl, ⟨rfl, rfl, rfl, Nat.le_refl _, fun _ _ _ => rfl, fun _ => Nat.le_refl _⟩, rfl, S, fun c hc => ⟨hU c (hSU c hc), Or.inl hc⟩, by simpa using hown, fun c hc hS => (hb c hc).2 (hSU c hS)⟩
  · obtain ⟨h1, h2⟩ := hown
    rcases h2 with ⟨_, h2, _⟩ | ⟨blk, T, cur, cap, rfl, rfl, hh, hle, hm, hcs, hra⟩
    · simp [hl] at h2
    obtain ⟨hblk, hnU⟩ := hb blk rfl
    let α := { p : A × List Value // Cell enc S w sz p }
    let cell : Nat → Nat → Value := fun i j => cur.getD (i * sz + j) undef
    have hcell : ∀ (i : Nat) (x : A), l[i]? = some x → Cell enc S w sz (x, (List.range sz).map (cell i)) := by
      intro i x hx
      refine ⟨by simp, fun j d v hd hv => ?_⟩
      have hes : (l.map enc)[i]? = some (enc x) := by rw [List.getElem?_map, hx]; rfl
      obtain ⟨u, hu, hr⟩ := hra i j (enc x) d hes hd
      rw [List.getElem?_map] at hv
      have hj : j < sz := by
        have := (List.getElem?_eq_some_iff.1 hd).1
        rw [hz] at this
        exact this
      rw [List.getElem?_range hj] at hv
      simp at hv
      subst hv
      have : cell i j = u := by
        show cur.getD (i * sz + j) undef = u
        simp only [Array.getD_eq_getD_getElem?, hu, Option.getD_some]
      rw [this]
      exact hr
    have hpos : 0 < l.length := List.length_pos_iff.2 hl
    have inh : Inhabited α := ⟨⟨(l[0], (List.range sz).map (cell 0)), hcell 0 _ (List.getElem?_eq_getElem hpos)⟩⟩
    let encα : α → List Value := fun p => p.1.2
    let cfα : α → α → Int := fun p q => cf p.1.1 q.1.1
    obtain ⟨d, hds, hdg⟩ : ∃ d : Array α, d.size = l.length ∧ ∀ i (hi : i < l.length), d[i]! = ⟨(l[i], (List.range sz).map (cell i)), hcell i _ (List.getElem?_eq_getElem hi)⟩ := by
      refine ⟨Array.ofFn fun i : Fin l.length => ⟨(l[i], (List.range sz).map (cell i)), hcell i _ (List.getElem?_eq_getElem i.2)⟩, by simp, fun i hi => ?_⟩
      rw [getElem!_pos _ i (by simpa using hi)]
      simp
    have hk : ∀ x, (encα x).length = sz := fun x => x.2.1
    have h1c : ∀ x, ∀ v ∈ encα x, v.oneCell' = true := by
      intro x v hv
      obtain ⟨j, hj, rfl⟩ := List.mem_iff_getElem.1 hv
      have hj' : j < sz := by rw [← hk x]; exact hj
      have hd : (enc x.1.1)[j]? = some ((enc x.1.1)[j]'(by rw [hz]; exact hj')) := List.getElem?_eq_getElem _
      exact (x.2.2 j _ _ hd (List.getElem?_eq_getElem hj)).one
    have hO : SWO (ltOf cfα) := ⟨fun x => hok.swo.irrefl _, fun x y z => hok.swo.trans _ _ _, fun x y z => hok.swo.ntrans _ _ _⟩
    have eg : ∀ args w, (callFunc g args).run P w = .ok (.enter g args) w := (hP l[0] l[0] _ (hok.total _ _)).1
    have hH : HoldsK encα sz w blk 0 d := by
      intro t ht
      rw [size_flatK, hds] at ht
      rw [get_flatK _ _ _ _ (by rw [hds]; exact ht)]
      have hti : t / sz < l.length := by
        rw [Nat.div_lt_iff_lt_mul hz0]
        exact ht
      rw [hdg _ hti]
      have hmod : t % sz < sz := Nat.mod_lt _ hz0
      have hval : ((List.range sz).map (cell (t / sz)))[t % sz]! = cur.getD t undef := by
        rw [getElem!_pos _ _ (by simpa using hmod)]
        simp only [List.getElem_map, List.getElem_range, cell]
        rw [Nat.mul_comm, Nat.div_add_mod]
      show w.cell? ⟨blk, 0 + t, none⟩ = some (((List.range sz).map (cell (t / sz)))[t % sz]!) ∧ _
      rw [hval, Nat.zero_add]
      refine cell_of_heap hh t ?_
      rw [hcs]
      simp only [List.length_map] at hle
      exact Nat.lt_of_lt_of_le ht (Nat.mul_le_mul_right _ hle)
    have hcmp : CmpLays P g cb encα sz cfα blk 0 d.size w := by
      intro m os dk hdk x y
      obtain ⟨q1, q2, q3, q4, q5, q6, q7⟩ := sort_world_heap encα sz w blk 0 m dk os hblk
      generalize sortWorldK encα sz w blk 0 m dk os = W at q1 q2 q3 q4 q5 q6 q7
      have hle : (cx0 U w).Le (cx0 U W) := ⟨fun _ => Nat.le_refl _, fun _ _ _ => rfl, fun _ h => h, fun c hc => q6 c (hU c hc) fun e => hnU (e ▸ hc)⟩
      have item : ∀ p : α, Rel (cx0 U W) (.agg ((enc p.1.1).map .d)) (.agg (encα p).toArray) := by
        intro p
        refine .agg (by simp [hz]; exact p.2.1) fun j c v hc hv => ?_
        rw [List.getElem?_map] at hc
        cases hq : (enc p.1.1)[j]? with
        | none => rw [hq] at hc; simp at hc
        | some dd =>
          rw [hq] at hc
          simp at hc
          subst hc
          exact .d ((p.2.2 j dd v hq (by simpa using hv)).mono hSU fun c hc => q6 c (hU c (hSU c hc)) fun e => hnU (e ▸ hSU c hc))
      refine ((hP x.1.1 y.1.1 _ (hok.total _ _)).2 W U _ (hI.keep fun k hk => q6 k (hI.lt hk) fun e => hnT blk rfl (e ▸ hk)) (fun c hc => Nat.lt_of_lt_of_le (hU c hc) q5) ?_).mono ?_
      · have : (#[Value.agg (encα x).toArray, .agg (encα y).toArray] ++ cb).toList = [Value.agg (encα x).toArray, .agg (encα y).toArray] ++ cb.toList := by simp
        rw [this]
        exact RelL.append (.cons (item x) (.cons (item y) (.nil _))) (hcb.mono hle)
      · rintro e w' ⟨v, S', bs, rfl, hbel, _, hres, _⟩
        obtain ⟨b, _, hres, _⟩ := hres
        refine ⟨?_, below_grow hbel⟩
        cases hres with
        | v _ _ => rfl
    have hcall := hs α inh encα hk h1c cfα hO g cb blk 0 cap d w eg hcmp hH hblk (by rw [hds]; exact hok.size)
    rw [List.length_map] at hle ⊢
    have e2 : (#[Value.slice (some ⟨blk, 0, none⟩) l.length cap] ++ #[.func (.func g) #[] cb]) = #[.slice (some ⟨blk, 0, none⟩) d.size cap, .func (.func g) #[] cb] := by rw [hds]; rfl
    rw [e2]
    refine hcall.mono ?_
    rintro e w' ⟨rfl, d', n, os, hperm, hsort, rfl⟩
    obtain ⟨q1, q2, q3, q4, q5, q6, q7⟩ := sort_world_heap encα sz w blk 0 n d' os hblk
    have hd's : d'.size = l.length := hperm.1.trans hds
    have hcur := q7 cur T (0, 0) hh
    have hlist : (d'.toList.map fun p => p.1.1) = l.mergeSort fun x y => !(ltOf cf y x) := by
      have hp1 : d'.toList.Perm d.toList := by
        have := hperm.2.2
        have e1 : d'.extract 0 d.size = d' := by rw [← hperm.1]; exact Array.extract_size
        rw [e1, Array.extract_size] at this
        exact this
      have hdl : d.toList.map (fun p => p.1.1) = l := by
        apply List.ext_getElem?
        intro i
        rw [List.getElem?_map]
        by_cases hi : i < l.length
        · rw [List.getElem?_eq_getElem hi, List.getElem?_eq_getElem (by simpa using (by rw [hds]; exact hi))]
          have := hdg i hi
          rw [getElem!_pos d i (by rw [hds]; exact hi)] at this
          simp [this]
        · have n1 : d.toList[i]? = none := List.getElem?_eq_none (by rw [Array.length_toList, hds]; omega)
          have n2 : l[i]? = none := List.getElem?_eq_none (by omega)
          rw [n1, n2]
          rfl
      have hp2 := hp1.map fun p => p.1.1
      rw [hdl] at hp2
      refine List.Perm.eq_of_pairwise (le := fun x y => (!ltOf cf y x) = true) ?_ ?_ ?_ (hp2.trans (List.mergeSort_perm _ _).symm)
      · intro a b ha hb' h1 h2
        simp only [Bool.not_eq_true'] at h1 h2
        exact hok.anti a (hp2.mem_iff.1 ha) b ((List.mergeSort_perm _ _).mem_iff.1 hb') h2 h1
      · rw [List.pairwise_map, List.pairwise_iff_getElem]
        intro i j hi hj hij
        have := hsort i j (Nat.zero_le _) hij (by rw [hds, ← hd's]; simpa using hj)
        rw [getElem!_pos d' j (by simpa using hj), getElem!_pos d' i (by simpa using hi)] at this
        simp only [Bool.not_eq_true', Array.getElem_toList]
        exact this
      · refine List.pairwise_mergeSort (le := fun x y => !ltOf cf y x) ?_ ?_ l
        · intro a b c h1 h2
          simp only [Bool.not_eq_true'] at h1 h2 ⊢
          exact hok.swo.ntrans _ _ _ h2 h1
        · intro a b
          cases h1 : ltOf cf b a
          · simp
          · cases h2 : ltOf cf a b
            · simp
            · have := hok.swo.trans _ _ _ h1 h2
              rw [hok.swo.irrefl] at this
              cases this
    refine ⟨_, rfl, ⟨q1, q2, q3, q5, fun k hk hne => q6 k hk fun e => hne (by rw [e]), by rw [q4]; omega⟩, rfl, S, fun c hc => ⟨Nat.lt_of_lt_of_le (hU c (hSU c hc)) q5, Or.inl hc⟩, ?_, fun c hc hS => by injection hc with hc; subst hc; exact hnU (hSU _ hS)⟩
    refine ⟨fun e he => by obtain ⟨x, _, rfl⟩ := List.mem_map.1 he; exact hz x, Or.inr ⟨blk, T, _, cap, rfl, by simp, hcur, by simpa using hle, hm, by simp [Go.Sort.putCells, hcs], fun i j e x hei hxj => ?_⟩⟩
    rw [← hlist, List.getElem?_map, List.getElem?_map] at hei
    cases hq : d'.toList[i]? with
    | none => rw [hq] at hei; simp at hei
    | some p =>
      rw [hq] at hei
      simp only [Option.map_some, Option.some.injEq] at hei
      subst hei
      have hi : i < l.length := by
        have := (List.getElem?_eq_some_iff.1 hq).1
        rw [← hd's]
        simpa using this
      have hj : j < sz := by
        have := (List.getElem?_eq_some_iff.1 hxj).1
        rw [hz] at this
        exact this
      have hlt : i * sz + j < l.length * sz := by
        have := Nat.mul_le_mul_right sz (show i + 1 ≤ l.length from hi)
        rw [Nat.add_mul, Nat.one_mul] at this
        omega
      have hlt2 : i * sz + j < cur.size := by
        rw [hcs]
        exact Nat.lt_of_lt_of_le hlt (Nat.mul_le_mul_right _ hle)
      have hv : (encα p)[j]? = some ((encα p)[j]'(by rw [hk]; exact hj)) := List.getElem?_eq_getElem _
      refine ⟨(encα p)[j]'(by rw [hk]; exact hj), ?_, ?_⟩
      · unfold Go.Sort.putCells
        rw [Array.getElem?_mapIdx, Array.getElem?_eq_getElem hlt2]
        simp only [Option.map_some, Nat.zero_le, true_and, Nat.zero_add, size_flatK, hd's, hlt, if_true, Nat.sub_zero, id]
        rw [get_flatK _ _ _ _ (by rw [hd's]; exact hlt)]
        have e1 : (i * sz + j) / sz = i := by
          rw [Nat.mul_comm, Nat.mul_add_div hz0, Nat.div_eq_of_lt hj, Nat.add_zero]
        have e2 : (i * sz + j) % sz = j := by
          rw [Nat.mul_comm, Nat.mul_add_mod, Nat.mod_eq_of_lt hj]
        rw [e1, e2]
        have : d'[i]! = p := by
          have hi2 : i < d'.size := by rw [hd's]; exact hi
          rw [getElem!_pos d' i hi2]
          have := hq
          rw [Array.getElem?_toList, Array.getElem?_eq_getElem hi2] at this
          injection this
        rw [this, getElem!_pos _ _ (by rw [hk]; exact hj)]
      · exact (p.2.2 j x _ hxj hv).mono (fun _ h => h) fun c hc => q6 c (hU c (hSU c hc)) fun e => hnU (e ▸ hSU c hc)
end
end Go.Proofs.Ytlgadmholjaljaa
