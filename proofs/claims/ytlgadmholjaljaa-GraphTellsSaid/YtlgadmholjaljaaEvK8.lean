/-
  Evaluation of Go code on plain data: maps.Clone at a map of the caller's own. Over any program.
-/
import Derived.Test.YtlgadmholjaljaaEvF2
namespace Go.Proofs.Ytlgadmholjaljaa
open Go.RowKit
theorem clone_fno {dr : Prop} {P : Program} {f : FuncId} (hcall : ∀ (args : Array Value) (w : World), (callFunc f args).run P w = .ok (.enter f args) w)
    (hc : ∀ (b : Nat) (es : Array MapEntry) (clock : Nat) (w : World), w.heap[b]? = some (.map es clock) → Calls P f #[.map (some b)] w fun e w' => e = .returned (.map (some w.heap.size)) ∧ w' = w.alloc (.map es clock))
    {ck : CK} {es : List (Value × D)} : FnO dr P f [.im ck es] [.mp 1000001 1] (.hp [.mp 1000002 1, .nl, .im ck es]) := by
  refine ⟨_, _, rfl, by simp, hcall, fun w A locs vals hI hA hobj htab hr => ?_⟩
  obtain ⟨v, vs, hv, h1, h2⟩ := hr.cons_inv
  have h2 := h2.nil_inv
  have hvals : vals = #[v] := by
    apply Array.ext'
    rw [hv, h2]
  subst hvals
  obtain ⟨inst, e1, e2⟩ := hobj.ok 0 _ rfl
  injection e1 with e1
  subst e1
  obtain ⟨b, ents, clock, k1, k2, k3, k4⟩ := e2
  have hb := hobj.blk 0 b (by simp) k1
  cases h1 with
  | mp hg hb' =>
    have hb' : (locs 1).blk = some _ := hb'
    have k1' : (locs 1).blk = some b := k1
    rw [k1'] at hb'
    injection hb' with hb'
    subst hb'
    refine (hc b ents clock w k2).mono ?_
    rintro e w' ⟨rfl, rfl⟩
    have keep : ∀ c, c < w.heap.size → (w.alloc (.map ents clock)).heap[c]? = w.heap[c]? := fun c hc => ((belowD_alloc (dr := True) w (.map ents clock)).block c hc)
    have hsz : (w.alloc (.map ents clock)).heap.size = w.heap.size + 1 := by simp
    let l2 : Nat → Loc := fun i => if i = 2 then ⟨some w.heap.size, 0, 0, 0⟩ else locs i
    have hmap : MapAt (cxO A (w.alloc (.map ents clock)) l2 2) ck ents es := ⟨k3.1, fun j p e hp he => ⟨(k3.2 j p e hp he).1, (k3.2 j p e hp he).2.1.mono (fun _ h => h) (fun b hb => keep b (hA b hb)), (k3.2 j p e hp he).2.2⟩⟩
    refine ⟨_, A, l2, [], rfl, ?_, fun b hb => ⟨by rw [hsz]; exact Nat.lt_succ_of_lt (hA b hb), Or.inl hb⟩, fun i hi => ?_, ⟨fun i a hi => ?_, fun i c hi hc => ?_, fun i j c hi hj hc hc' => ?_⟩, fun i c h1 h2 hc => ?_, ?_, by simp [Apart], fun b hb => by simp at hb⟩
    · have := belowD_alloc (dr := dr) w (.map ents clock)
      exact ⟨this.os, this.tape, this.output, this.size, fun k hk _ => this.block k hk, this.drawn⟩
    · have : i = 0 := Nat.lt_one_iff.1 hi
      subst this
      rfl
    · match i, hi with
      | 0, hi =>
        injection hi with hi
        subst hi
        exact ⟨_, rfl, b, ents, clock, k1, (keep b hb.1).trans k2, hmap, k4⟩
      | 1, hi =>
        injection hi with hi
        subst hi
        exact ⟨_, rfl, w.heap.size, ents, clock, rfl, heap_alloc_new _ _, hmap, k4⟩
      | i + 2, hi => cases hi
    · match i, hi with
      | 0, _ =>
        have hc : (locs 1).blk = some c := hc
        have := hobj.blk 0 c (by simp) hc
        exact ⟨by rw [hsz]; omega, this.2⟩
      | 1, _ =>
        have hc : some w.heap.size = some c := hc
        injection hc with hc
        subst hc
        exact ⟨by rw [hsz]; omega, fun h => absurd (hA _ h) (by omega)⟩
      | i + 2, hi => exact absurd (show i + 2 < 2 from hi) (by omega)
    · have key : ∀ c, l2 1 = locs 1 ∧ ((locs 1).blk = some c → c < w.heap.size) := fun c => ⟨rfl, fun h => (hobj.blk 0 c (by simp) h).1⟩
      match i, hi, j, hj with
      | 0, _, 0, _ => rfl
      | 1, _, 1, _ => rfl
      | 0, _, 1, _ =>
        have hc : (locs 1).blk = some c := hc
        have hc' : some w.heap.size = some c := hc'
        injection hc' with hc'
        have := (key c).2 hc
        omega
      | 1, _, 0, _ =>
        have hc' : (locs 1).blk = some c := hc'
        have hc : some w.heap.size = some c := hc
        injection hc with hc
        have := (key c).2 hc'
        omega
      | i + 2, hi, _, _ => exact absurd (show i + 2 < 2 from hi) (by omega)
      | _, _, j + 2, hj => exact absurd (show j + 2 < 2 from hj) (by omega)
    · match i, h1, h2 with
      | 0, h1, _ => simp at h1
      | 1, _, _ =>
        have hc : some w.heap.size = some c := hc
        injection hc with hc
        omega
      | i + 2, _, h2 => exact absurd (show i + 2 < 2 from h2) (by omega)
    · refine ⟨?_, rfl⟩
      have := Rel.mp (κ := cxO A (w.alloc (.map ents clock)) l2 2) (s := 1000002) (g := 1) (b := w.heap.size) (cxO_gn (i := 1) _ _ _ (by omega)) rfl
      exact this
end Go.Proofs.Ytlgadmholjaljaa
