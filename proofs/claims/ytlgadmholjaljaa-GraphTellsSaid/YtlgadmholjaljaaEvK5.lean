/-
  maps.Keys and slices.Sorted at a map of the call's own, keys of the kind int: their contracts, out of the kit's. Over any program.
-/
import Derived.Test.YtlgadmholjaljaaEvT
import Derived.Shelf.SlIterI.Nil
import Derived.Shelf.SortM.Plain
import Derived.Shelf.SortM.SortNone
namespace Go.Proofs.Ytlgadmholjaljaa
open Go.RowKit Go.Maps Go.Sort Go.Shelf Go.WideElems Go.WideShapes
/-- the keys of a map, in order -/
def sortedK (ks : List Int) : Option (List Int) :=
  (chkO (decide (ks.length ≤ 1000000) && ks.all fun k => decide (-9223372036854775808 ≤ k) && decide (k ≤ 9223372036854775807))).bind fun _ => some (ks.mergeSort fun x y => decide (x ≤ y))
theorem sortedK_inv {ks rs : List Int} (h : sortedK ks = some rs) : ks.length ≤ 1000000 ∧ (∀ k ∈ ks, -9223372036854775808 ≤ k ∧ k ≤ 9223372036854775807) ∧ rs = ks.mergeSort fun x y => decide (x ≤ y) := by
  unfold sortedK at h
  cases hc : (decide (ks.length ≤ 1000000) && ks.all fun k => decide (-9223372036854775808 ≤ k) && decide (k ≤ 9223372036854775807))
  · rw [hc] at h; cases h
  · rw [hc] at h
    rw [Bool.and_eq_true, List.all_eq_true] at hc
    refine ⟨of_decide_eq_true hc.1, fun k hk => ?_, by injection h with h; exact h.symm⟩
    have := hc.2 k hk
    rw [Bool.and_eq_true] at this
    exact ⟨of_decide_eq_true this.1, of_decide_eq_true this.2⟩
theorem keys_fnk {P : Program} {ρ : Ren} (L : SlLaysZI.n7 P ρ) (he : ∀ (args : Array Value) (w : World), (callFunc (ρ.f 7) args).run P w = .ok (.enter (ρ.f 7) args) w) : FnKeys P (ρ.f 7) (.fn (ρ.f 10) []) :=
  ⟨ρ.f 10, rfl, he, ρ.t 23, fun mb w => (callsIn_wide (n := 6)).1 (AnyZI.keys_in L Fence.wide 6 trivial rfl (some mb) w)⟩
theorem wf_of {k : Int} (h1 : -9223372036854775808 ≤ k) (h2 : k ≤ 9223372036854775807) : (Lit.int .i64 k).wf = true := by
  simp [Lit.wf, IntKind.min, IntKind.max, IntKind.signed, IntKind.bits]
  omega
theorem foldr_perm : ∀ l : List (Lit × DataW Unit), (l.foldr DataW.insert []).Perm l
  | [] => .nil
  | x :: l => (insert_perm x _).trans ((foldr_perm l).cons x)
theorem skeys_fnk {P : Program} {ρ σ : Ren} (LK : SlLaysZI.n7 P ρ) (LS : SlLaysZI.n6 P σ) (hs : AnyZI.SortsIn P σ Fence.wide 4) (e6 : ∀ (args : Array Value) (w : World), (callFunc (σ.f 6) args).run P w = .ok (.enter (σ.f 6) args) w)
    (e9 : ∀ (args : Array Value) (w : World), (callFunc (σ.f 9) args).run P w = .ok (.enter (σ.f 9) args) w) (eg : ∀ (args : Array Value) (w : World), (callFunc (ρ.f 10) args).run P w = .ok (.enter (ρ.f 10) args) w)
    {ks rs : List Int} (h : sortedK ks = some rs) : FnSKeys False P (σ.f 6) (ρ.f 10) (ks.map fun k => [.v (.int .i64 k)]) (.ow 1 (rs.map fun k => [.v (.int .i64 k)])) := by
  obtain ⟨hl, hr, rfl⟩ := sortedK_inv h
  refine ⟨_, rfl, e6, fun w bb mb ents clock hbb hcell hmb hst hsz hrel => ?_⟩
  rw [List.length_map] at hsz
  let R : Value → Option (DataW Unit × List MemPlace) := fun _ => some (.lit (.bool true), [])
  have hkey : ∀ (j : Nat) (e : MapEntry), ents[j]? = some e → ∃ k, ks[j]? = some k ∧ e.key = .int .i64 k := by
    intro j e he
    have hj : j < ks.length := by rw [← hsz]; exact (Array.getElem?_eq_some_iff.1 he).1
    have h1 := hrel j [.v (.int .i64 ks[j])] e (by rw [List.getElem?_map, List.getElem?_eq_getElem hj]; rfl) he
    injection h1 with h1
    injection h1 with h1
    exact ⟨ks[j], List.getElem?_eq_getElem hj, h1.symm⟩
  have hrd : ∀ (j : Nat) (e : MapEntry), ents[j]? = some e → ∃ k, ks[j]? = some k ∧ rd P (ρ.t 26) R e = some (.int .i64 k, .lit (.bool true)) := by
    intro j e he
    obtain ⟨k, hk, hek⟩ := hkey j e he
    have hkr := hr k (List.mem_of_getElem? hk)
    refine ⟨k, hk, ?_⟩
    have h1 : keyOf P (ρ.t 26) e.key = some (.int .i64 k) := by rw [hek]; exact keyOf_int_mk LK.t26 (wf_of hkr.1 hkr.2)
    have := rd_mk (R := R) (val := e.val) (born := e.born) h1 rfl
    exact this
  have hF : Fit P (ρ.t 26) R ents clock := ⟨by rw [hsz]; simp only [maxLen]; omega, hst, fun x hx => by
    obtain ⟨j, hj⟩ := List.getElem?_of_mem hx
    obtain ⟨k, _, h2⟩ := hrd j x (by simpa using hj)
    exact ⟨_, h2⟩⟩
  let D0 : DataW Unit := .map ((ents.toList.map (rg P (ρ.t 26) R)).foldr DataW.insert [])
  have hown : w.ownsMap P (ρ.t 26) R mb ents.size D0 := ⟨ents, clock, hmb, hF, Nat.le_refl _, rfl⟩
  have hperm := foldr_perm (ents.toList.map (rg P (ρ.t 26) R))
  have hsize : Maps.size D0 = ks.length := by
    show ((ents.toList.map (rg P (ρ.t 26) R)).foldr DataW.insert []).length = _
    rw [hperm.length_eq, List.length_map, Array.length_toList, hsz]
  have hkeys : (intKeys D0).Perm ks := by
    have h1 : (intKeys D0).Perm ((ents.toList.map (rg P (ρ.t 26) R)).map fun p => Go.intOf p.1) := hperm.map _
    refine h1.trans (List.Perm.of_eq ?_)
    apply List.ext_getElem?
    intro j
    rw [List.map_map, List.getElem?_map]
    cases he : ents.toList[j]? with
    | none =>
      have : ents.size ≤ j := by simpa using he
      rw [List.getElem?_eq_none (by omega)]
      rfl
    | some e =>
      obtain ⟨k, hk, h2⟩ := hrd j e (by simpa using he)
      rw [hk]
      simp only [Option.map_some, Function.comp, rg_of h2]
      rfl
  have hseq : SeqGives Fence.wide 2 P (ρ.f 10) #[.pointer (some ⟨bb, 0, none⟩)] encZ (fun ss => ss.Perm (intKeys D0)) (Maps.size D0) w :=
    AnyZI.keys_gives (ρ := ρ) { LK with } Fence.wide _ trivial rfl (by omega) bb mb ents.size D0 w hbb hcell hown
  have cS := AnyZI.sorted_in LS Fence.wide 5 trivial trivial trivial trivial rfl (by omega) hs e9 (ρ.f 10) #[.pointer (some ⟨bb, 0, none⟩)] trivial eg _ (Maps.size D0) (by rw [hsize]; simp only [maxLen]; omega) (by rw [hsize]; omega) w hseq
  refine ((callsIn_wide (n := 5)).1 cS).mono ?_
  rintro e w' ⟨v, ss, rfl, hS, hrow, hnil, hb⟩
  have hms : ss.mergeSort (fun x y => decide (x ≤ y)) = ks.mergeSort fun x y => decide (x ≤ y) := mergeSort_of_perm_i (hS.trans hkeys)
  rw [hms] at hrow
  obtain ⟨hlen, hcase⟩ := hrow
  have hrs : ((ks.mergeSort fun x y => decide (x ≤ y)).map fun k => [D.v (.int .i64 k)]).length = ss.length := by
    rw [List.length_map, ← hms, List.length_mergeSort]
  rcases hcase with ⟨rfl, hz⟩ | ⟨g, cap, cur, rfl, hge, hg, hnc, hcm, hcs, ht⟩
  · refine ⟨_, none, rfl, ⟨hb, fun h => h.elim⟩, ⟨by simp, Or.inl ⟨rfl, ?_, none, rfl⟩⟩, fun c hc => by cases hc⟩
    exact List.eq_nil_of_length_eq_zero (by rw [hrs, hz])
  · refine ⟨_, some g, rfl, ⟨hb, fun h => h.elim⟩, ⟨by simp, Or.inr ⟨g, _, cur, cap, rfl, by rw [hrs], hg, by rw [hrs]; exact hnc, hcm, hcs, fun i j e x h1 h2 => ?_⟩⟩, fun c hc => by injection hc with hc; subst hc; exact ⟨hge, lt_of_block hg⟩⟩
    rw [List.getElem?_map] at h1
    cases hq : (ks.mergeSort fun x y => decide (x ≤ y))[i]? with
    | none => rw [hq] at h1; cases h1
    | some k =>
      rw [hq] at h1
      injection h1 with h1
      subst h1
      have hj : j = 0 := by
        have := (List.getElem?_eq_some_iff.1 h2).1
        simpa using this
      subst hj
      injection h2 with h2
      subst h2
      refine ⟨.int .i64 k, ?_, .v _ rfl⟩
      have hi := (List.getElem?_eq_some_iff.1 hq).1
      have := congrArg (fun l => l[i]?) ht
      simp only [List.getElem?_map, hq, Option.map_some] at this
      rw [List.getElem?_take_of_lt (by rw [← hms, List.length_mergeSort] at hi; omega)] at this
      simpa using this
theorem fnx_skeys {P : Program} {f kf : FuncId} {r : AV} {V : Type} {ve : V → D} {l : List (Int × V)} (h : FnSKeys False P f kf ((l.map Prod.fst).map fun k => [.v (.int .i64 k)]) r) : FnX False P f [.fn kf [.ow 1 ((mapE (Value.int .i64) ve l).map fun p => [.v p.1])]] r := by
  show FnSKeys False P f kf _ r
  have e : ((mapE (Value.int .i64) ve l).map fun p => [D.v p.1]) = (l.map Prod.fst).map fun k => [D.v (.int .i64 k)] := by
    simp only [mapE, List.map_map]
    rfl
  rw [e]
  exact h
theorem encI_v (l : List Int) : (l.map fun k => [D.v (.int .i64 k)]) = l.map (encI .i64) := rfl
end Go.Proofs.Ytlgadmholjaljaa
