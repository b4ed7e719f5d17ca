/-
  The keys of a map whose keys are pairs of numbers, as they come: maps.Keys.
  The keys of a map whose keys are pairs of numbers, collected: slices.AppendSeq, slices.Collect.
  The keys of a map whose keys are pairs of numbers, collected into a row: what came, in some order; nothing out of a nil map.
  A map of pairs that is written: a pair put in, a pair taken out.
-/
import Derived.Test.YtljdbikodogeiaaGreatDoorProg
import Derived.Shelf.SlIterI.Nil
import Derived.WideKeyPair
import Derived.DeepKeys4
import Derived.Test.YtljdbikodogeiaaGreatDoorEvT
namespace Go.Proofs.YtljdbikodogeiaaGreatDoor
open Go.RowKit Go.Maps Go.Sort Go.Shelf Go.WideMaps Go.WideElems Go.WideShapes
abbrev Pr := Int × Int
def pairV (x : Pr) : Value := .agg #[.int .i64 x.1, .int .i64 x.2]
def inR (x : Pr) : Prop := (Lit.int .i64 x.1).wf = true ∧ (Lit.int .i64 x.2).wf = true
def klit (x : Pr) : Lit := .string (keyBytes [.int .i64 x.1, .int .i64 x.2])
theorem arr44 : ArrKey Tryz.prog 91 3 2 := ⟨Tryz.underlying91, by kernel_rfl, by kernel_rfl, by kernel_rfl⟩
theorem tys : ∃ m, Tryz.prog.types.size = m + 1 := ⟨Tryz.prog.types.size - 1, by kernel_rfl⟩
theorem laidP : laidOutB Tryz.prog = true := by kernel_rfl
theorem law44 : KeyLaw Tryz.prog 91 := deep_law_laid laidP (m := 2) (by omega) (of_decide_eq_true (by kernel_rfl)) (by kernel_rfl) (by rw [Tryz.underlying91])
theorem keyed44 : Keyed Tryz.prog 91 := Keyed.of_law law44
theorem key_pair {x : Pr} (h : inR x) : keyOf Tryz.prog 91 (pairV x) = some (klit x) := keyOf_pair arr44 Tryz.underlying3 tys h.1 h.2
theorem pairV_inj {x y : Pr} (h : pairV x = pairV y) : x = y := by
  unfold pairV at h
  simp at h
  exact Prod.ext h.1 h.2
theorem klit_inj {x y : Pr} (hx : inR x) (hy : inR y) (h : klit x = klit y) : x = y := pairV_inj (keyed44.inj (key_pair hx) (by rw [h]; exact key_pair hy))
theorem of_pair {P : Program} {k e : TypeId} {q : IntKind} (A : ArrKey P k e 2) (he : P.underlying e = some (.int q)) (hsz : ∃ m, P.types.size = m + 1) {v : Value} {l : Lit} (h : keyOf P k v = some l) :
    ∃ a b, v = .agg #[.int q a, .int q b] ∧ (Lit.int q a).wf = true ∧ (Lit.int q b).wf = true ∧ l = .string (keyBytes [.int q a, .int q b]) := by
  obtain ⟨m, hm⟩ := hsz
  unfold keyOf at h
  simp only [A.hu] at h
  split at h
  · rename_i hc
    rw [Bool.and_eq_true] at hc
    have hf := hc.2
    cases v with
    | agg cs =>
      have hsz : cs.size = 2 := by simpa [Value.formed, A.hu, A.size] using hf
      obtain ⟨c0, c1, rfl⟩ : ∃ c0 c1, cs = #[c0, c1] := by
        obtain ⟨l⟩ := cs
        match l, hsz with
        | [a, b], _ => exact ⟨a, b, rfl⟩
      rw [hm] at h
      unfold Program.keyLits at h
      simp only [A.hu, Value.cells] at h
      rw [if_pos (by rw [A.size]; rfl), show List.range 2 = [0, 1] from rfl, List.mapM_cons, List.mapM_cons, List.mapM_nil] at h
      have e0 : ((#[c0, c1] : Array Value).toList.drop (0 * P.cellsOf e)).take (P.cellsOf e) = [c0] := by rw [A.one]; rfl
      have e1 : ((#[c0, c1] : Array Value).toList.drop (1 * P.cellsOf e)).take (P.cellsOf e) = [c1] := by rw [A.one]; rfl
      rw [e0, e1] at h
      have one : ∀ c ls, P.keyLits (m + 1) e [c] = some ls → ∃ a, c = .int q a ∧ (Lit.int q a).wf = true ∧ ls = [.int q a] := by
        intro c ls hc
        unfold Program.keyLits at hc
        simp only [he] at hc
        cases c <;> simp at hc
        rename_i q' a
        obtain ⟨⟨rfl, hw⟩, rfl⟩ := hc
        exact ⟨a, rfl, hw, rfl⟩
      cases h0 : P.keyLits (m + 1) e [c0] with
      | none => rw [h0] at h; cases h
      | some l0 =>
        cases h1 : P.keyLits (m + 1) e [c1] with
        | none => rw [h0, h1] at h; cases h
        | some l1 =>
          obtain ⟨a, rfl, wa, rfl⟩ := one _ _ h0
          obtain ⟨b, rfl, wb, rfl⟩ := one _ _ h1
          rw [h0, h1] at h
          injection h with h
          exact ⟨a, b, rfl, wa, wb, h.symm⟩
    | _ => simp [Value.formed, A.hu] at hf
  · cases h
theorem of_key {v : Value} {l : Lit} (h : keyOf Tryz.prog 91 v = some l) : ∃ x, v = pairV x ∧ inR x ∧ l = klit x := by
  obtain ⟨a, b, rfl, wa, wb, rfl⟩ := of_pair arr44 Tryz.underlying3 tys h
  exact ⟨(a, b), rfl, ⟨wa, wb⟩, rfl⟩
/-- no key twice; a key is on the list just where the map has it and it is no longer to come -/
structure CollP (D0 : DataW Unit) (left : Lit → Bool) (ss : List Pr) : Prop where
  nodup : ss.Nodup
  rng : ∀ x ∈ ss, inR x
  mem : ∀ x, inR x → (x ∈ ss ↔ (has D0 (klit x) = true ∧ left (klit x) = false))
theorem CollP.start (D0 : DataW Unit) : CollP D0 (has D0) [] := ⟨List.nodup_nil, fun x hx => (by cases hx), fun x _ => by cases has D0 (klit x) <;> simp⟩
theorem same_klit (x y : Pr) : (klit y).sameKey (klit x) = true ↔ klit y = klit x := by
  unfold klit
  simp [Lit.sameKey]
theorem CollP.step {D0 : DataW Unit} {left : Lit → Bool} {ss : List Pr} (h : CollP D0 left ss) {x : Pr} (hx : inR x) {y : DataW Unit} (hlk : left (klit x) = true) (hat : ∀ zd, D0.atKey (klit x) zd = y) : CollP D0 (fun z => left z && !z.sameKey (klit x)) (ss ++ [x]) := by
  have hhas : has D0 (klit x) = true := has_true_of_atKey hat
  have hnew : x ∉ ss := fun hm => by have := ((h.mem x hx).1 hm).2; rw [hlk] at this; cases this
  refine ⟨List.nodup_append.2 ⟨h.nodup, by simp, fun a ha b hb => by simp at hb; subst hb; exact fun e => hnew (e ▸ ha)⟩, fun z hz => ?_, fun z hz => ?_⟩
  · rcases List.mem_append.1 hz with hz | hz
    · exact h.rng z hz
    · rw [List.mem_singleton.1 hz]; exact hx
  · by_cases hzx : z = x
    · subst hzx
      have e : (klit z).sameKey (klit z) = true := (same_klit z z).2 rfl
      simp [hhas, e]
    · have hne : (klit z).sameKey (klit x) = false := by
        cases hq : (klit z).sameKey (klit x)
        · rfl
        · exact absurd ((same_klit x z).1 hq) fun e => hzx (klit_inj hz hx e)
      simp [h.mem z hz, hzx, hne]
set_option maxRecDepth 100000 in
set_option maxHeartbeats 1000000 in
theorem keysP_in (F : Fence) (n : Nat) (h10 : F.fn 71) (hro : F.round = none) (hn : 1 ≤ n) (l Bm b nn : Nat) (D0 : DataW Unit) {R : Value → Option (DataW Unit × List MemPlace)} (J : List Pr → World → Prop)
    (hY : ∀ pre x W, J pre W → pre.length < Maps.size D0 → YieldAt F (n - 1) Tryz.prog l #[pairV x] W fun e W' => e = .returned (.bool true) ∧ J (pre ++ [x]) W' ∧ KeepsWalks W W')
    (W : World) (hJ : AbidesFrom W.heap.size J) (hm : W.cell? ⟨Bm, 0, none⟩ = some (.map (some b))) (hown : W.ownsMap Tryz.prog 91 R b nn D0) (h0 : J [] W) :
    CallsIn F n Tryz.prog 71 #[.func (.yield l) #[] #[], .pointer (some ⟨Bm, 0, none⟩)] W fun e W' => (∃ v, e = .returned v) ∧ ∃ ss : List Pr, CollP D0 (fun _ => false) ss ∧ J ss W' := by
  refine callsIn_of_wp Tryz.func71 rfl h10 ?_ hro
  simp only [Tryz.ntmps71, List.size_toArray, List.length_cons, List.length_nil, Nat.reduceAdd, Nat.reduceSub, Array.replicate_succ, Array.replicate_zero, List.push_toArray, List.append_toArray, List.nil_append, List.cons_append]
  gi_wp2_with (first
    | (gi_at_range; refine wpListIn_range_own _ rfl _ 80 rfl 91 4 keyed44 Tryz.underlying80 _ b nn _ rfl hown ?_; intro w0 hrg0 hg0 hs0)
    | gi_in)
  go_frame
  gi_loopw [3] (fun _ wr => ∃ (left : Lit → Bool) (cnt : Nat) (ss : List Pr), wr.ranges Tryz.prog 91 R b W.heap.size nn D0 left cnt ∧ ss.length + cnt ≤ Maps.size D0 ∧ CollP D0 left ss ∧ J ss wr)
    (fun _ wr => wr.rangeLeft b W.heap.size)
  case atStart =>
    exact ⟨_, _, [], hrg0, by simp, CollP.start D0, hJ [] W w0 none h0 hg0 (fun r e => by cases e)⟩
  case round =>
    obtain ⟨left, cnt, ss, hrg, hcs, hC, hJs⟩ := hrel
    gi_wp2_with (first
      | (gi_at_next; refine wpListIn_next_ranges _ rfl _ rfl 91 keyed44 R pairV id (fun key kl hk => by obtain ⟨x, hx, _⟩ := of_key hk; exact ⟨x, hx⟩) (fun v _ _ => ⟨v, rfl⟩) b W.heap.size nn _ _ _ rfl hrg ?_ ?_)
      | gi_in)
    · intro hc0 hl0
      gi_wp2
      go_end0
      exact ⟨⟨_, rfl⟩, ss, ⟨hC.nodup, hC.rng, fun x hx => by rw [hC.mem x hx, hl0]⟩, hJs⟩
    · intro x1 x2 c kl yd yp w2 cnt2 hkey hlk hv hat hrg2 hlt hg2 hs2 hen
      obtain ⟨x', ex, hir, rfl⟩ := of_key hkey
      obtain rfl := pairV_inj ex
      have hJ2 : J ss w2 := hJ ss wr w2 (some W.heap.size) hJs hg2 (fun r e => by cases e; exact ⟨Nat.le_refl _, hrg.iter_walk⟩)
      clear hs2
      unfold pairV at hen
      have hg3 : w2.grownBy (w2.alloc (.cells #[.int .i64 x1, .int .i64 x2] 91)) none := ⟨rfl, rfl, rfl, by simp, fun k hk _ => Below.heap_alloc _ _ k hk⟩
      have hJ3 : J ss (w2.alloc (.cells #[.int .i64 x1, .int .i64 x2] 91)) := hJ ss w2 _ none hJ2 hg3 (fun r e => by cases e)
      obtain ⟨fn, tmps, assign, body, hy, hR⟩ := hY ss (x1, x2) _ hJ3 (by omega)
      unfold pairV at hy
      gi_wp2
      refine hR.mono ?_
      rintro e W3 ⟨rfl, hJ4, hk3⟩
      gi_wp2
      have hrg3 := (hrg2.of_walks (KeepsWalks.alloc _ _)).of_walks hk3
      go_roundw
      case rel => exact ⟨_, cnt2, ss ++ [(x1, x2)], hrg3, by simp; omega, hC.step hir hlk hat, hJ4⟩
      case measure => rw [hrg3.left_eq, hrg.left_eq]; exact hlt
theorem keysP_gives (F : Fence) (n : Nat) (h10 : F.fn 71) (hro : F.round = none) (hn : 1 ≤ n) (Bm b nn : Nat) (D0 : DataW Unit) {R : Value → Option (DataW Unit × List MemPlace)} (w : World) (hBm : Bm < w.heap.size)
    (hm : w.cell? ⟨Bm, 0, none⟩ = some (.map (some b))) (hown : w.ownsMap Tryz.prog 91 R b nn D0) :
    SeqGives F n Tryz.prog 71 #[.pointer (some ⟨Bm, 0, none⟩)] pairV (CollP D0 fun _ => false) (Maps.size D0) w := fun l J W hW hJ hY h0 => by
  have hown' : W.ownsMap Tryz.prog 91 R b nn D0 := by
    have hbl := hown.lt
    obtain ⟨es, clock, hb, Ft, hs, hD⟩ := hown
    exact ⟨es, clock, (hW.block b hbl).trans hb, Ft, hs, hD⟩
  exact keysP_in F n h10 hro hn l Bm b nn D0 J hY W hJ ((hW.cell (p := ⟨Bm, 0, none⟩) hBm).trans hm) hown' h0
theorem keysM_any (mb : Option Nat) (w : World) : Calls Tryz.prog 43 #[.map mb] w fun e w' => e = .returned (.func (.func 71) #[] #[.pointer (some ⟨w.heap.size, 0, none⟩)]) ∧ w' = w.alloc (.cells #[.map mb] 80) := by
  go_enter Tryz.func43, Tryz.ntmps43
  go_wp2_with fail
  go_ret
  exact ⟨rfl, rfl⟩
end Go.Proofs.YtljdbikodogeiaaGreatDoor
namespace Go.Proofs.YtljdbikodogeiaaGreatDoor
open Go.RowKit Go.Maps Go.Sort Go.Shelf
def pairCl (x : Pr) : List Value := [.int .i64 x.1, .int .i64 x.2]
theorem pairCl_len (l : List Pr) : (l.flatMap pairCl).length = l.length * 2 := by
  induction l with
  | nil => rfl
  | cons a l ih => simp only [List.flatMap_cons, List.length_append, ih, List.length_cons, pairCl, List.length_nil]; omega
theorem infoP : (Tryz.prog.info? 91).map (fun i => (i.zero, i.size, i.bytes)) = some (some (.agg #[.int .i64 0, .int .i64 0]), 2, 16) := by kernel_rfl
def apAssignP : Code := (Code.region 2 #[{ dst := some 5, op := Op.alloc 91, type := 0, pos := "iter.go:51", after := #[], guard := none }, { dst := none, op := Op.store 91 (Operand.tmp 5) (Operand.tmp 7), type := 0, pos := "iter.go:51", after := #[{ on := 0, ground := Ground.data }, { on := 0, ground := Ground.phase }], guard := none }] false)
def apBodyP : Code := (Code.block 1 (Code.region 3 #[{ dst := some 8, op := Op.load 41 (Operand.tmp 2), type := 41, pos := "iter.go:52", after := #[], guard := none }, { dst := some 9, op := Op.load 91 (Operand.tmp 5), type := 91, pos := "iter.go:52", after := #[], guard := none }, { dst := some 10, op := Op.buildSlice 41 1 #[(0, Operand.tmp 9)], type := 41, pos := "iter.go:52", after := #[{ on := 1, ground := Ground.data }], guard := none }, { dst := some 11, op := Op.call { callee := Callee.builtin Builtin.append, args := #[Operand.tmp 8, Operand.tmp 10], argTypes := #[41, 41] }, type := 41, pos := "iter.go:52", after := #[{ on := 0, ground := Ground.data }, { on := 2, ground := Ground.data }], guard := none }, { dst := none, op := Op.store 41 (Operand.tmp 2) (Operand.tmp 11), type := 0, pos := "iter.go:52", after := #[{ on := 3, ground := Ground.data }, { on := 3, ground := Ground.chain }, { on := 0, ground := Ground.phase }, { on := 1, ground := Ground.phase }, { on := 2, ground := Ground.phase }, { on := 3, ground := Ground.phase }], guard := none }] false))
/-- the loop's record -/
def apRecP (fn : FuncId) (sv : Value) (Bs D : Nat) (st : LoopState) (pend : Option Code) : Loop :=
  { state := st, pending := pend, fn, tmps := #[.slice none 0 0, sv, .pointer (some ⟨Bs, 0, none⟩), undef, .slice none 0 0, undef, sv, undef, undef, undef, undef, undef, undef], params := #[7], assign := apAssignP, body := apBodyP, defers := D }
/-- between two rounds -/
structure ApAtP (w0 : World) (fn : FuncId) (sv : Value) (Bs l D : Nat) (ss : List Pr) (W : World) : Prop where
  box : ∃ v, W.heap[Bs]? = some (.cells #[v] 41 (0, 0)) ∧ W.ownsRow w0.heap.size 91 2 v ss.length (ss.flatMap pairCl) ∧ (v = .slice none 0 0 ↔ ss = [])
  L : W.heap[l]? = some (.loop (apRecP fn sv Bs D .ready none))
  K : W.heap[D]? = some (.deferred (some []))
  below : Below w0.heap.size w0 W
theorem ap_abidesP (w0 : World) (fn : FuncId) (sv : Value) (Bs l D B : Nat) (hB : w0.heap.size ≤ B) : AbidesFrom B (ApAtP w0 fn sv Bs l D) := fun s W W' row h hg hrow => by
  have hrow' : ∀ r, row = some r → ∃ o : Obj, W.heap[r]? = some o ∧ o.isWalk = true := fun r e => (hrow r e).2
  obtain ⟨v, hv, hr, hn⟩ := h.box
  exact ⟨⟨v, (grownBy_keeps hg hrow' hv rfl).trans hv, ownsRow_abides_a hr hg hrow', hn⟩, (grownBy_keeps hg hrow' h.L rfl).trans h.L, (grownBy_keeps hg hrow' h.K rfl).trans h.K,
    h.below.grown hg h.below.size (fun k e => Nat.le_trans hB (hrow k e).1)⟩
theorem cell_two_new (w : World) (a b : Value) (t : TypeId) : ∀ j u, [a, b][j]? = some u → (w.alloc (.cells #[a, b] t)).cell? ((⟨w.heap.size, 0, none⟩ : Addr).add j) = some u := by
  intro j u hu
  match j, hu with
  | 0, hu =>
    injection hu with hu
    subst hu
    simp [Addr.add, go_sem]
  | 1, hu =>
    injection hu with hu
    subst hu
    simp [Addr.add, go_sem]
set_option maxRecDepth 100000 in
set_option maxHeartbeats 2000000 in
theorem apYieldP (F : Fence) (m : Nat) (w0 : World) (fn : FuncId) (hfn : F.fn fn) (sv : Value) (Bs l D : Nat) (hBl : Bs ≠ l) (hDl : D ≠ l) (hDB : D ≠ Bs) (h0B : w0.heap.size ≤ Bs) (h0l : w0.heap.size ≤ l)
    (N : Nat) (hN : N ≤ maxLen) (hNb : N * 16 ≤ 140737488355328) (ss : List Pr) (x : Pr) (W : World) (h : ApAtP w0 fn sv Bs l D ss W) (hlen : ss.length < N) :
    YieldAt F m Tryz.prog l #[pairV x] W fun e W' => e = .returned (.bool true) ∧ ApAtP w0 fn sv Bs l D (ss ++ [x]) W' ∧ KeepsWalks W W' := by
  obtain ⟨x1, x2⟩ := x
  have hne : 41 ≠ 91 := by decide
  obtain ⟨i0, hi, hz0, hz1, hz2⟩ := info_parts infoP
  obtain ⟨v, hv, hrow, _⟩ := h.box
  unfold pairV
  refine ⟨fn, #[.slice none 0 0, sv, .pointer (some ⟨Bs, 0, none⟩), undef, .slice none 0 0, undef, sv, .agg #[.int .i64 x1, .int .i64 x2], undef, undef, undef, undef, undef], apAssignP, apBodyP, by simpa [apRecP] using run_yield (P := Tryz.prog) (args := #[.agg #[.int .i64 x1, .int .i64 x2]]) h.L rfl, roundIn_of_wpIn hfn ?_⟩
  unfold apAssignP
  have hlW : l < W.heap.size := (Array.getElem?_eq_some_iff.1 h.L).1
  have hBW : Bs < W.heap.size := (Array.getElem?_eq_some_iff.1 hv).1
  clear hv hrow
  gi_wp2_with gi_round_op_a
  obtain ⟨W1, hW1⟩ : ∃ W1, W.alloc (.cells #[.int .i64 x1, .int .i64 x2] 91) = W1 := ⟨_, rfl⟩
  have hg1 : W.grownBy W1 none := by rw [← hW1]; exact ⟨rfl, rfl, rfl, by simp, fun k hk _ => Below.heap_alloc _ _ k hk⟩
  have hx1 : W1.heap[W.heap.size]? = some (.cells #[.int .i64 x1, .int .i64 x2] 91 (0, 0)) := by rw [← hW1]; exact World.alloc_heap_new W _
  have hk1 : KeepsWalks W W1 := by rw [← hW1]; exact KeepsWalks.alloc _ _
  have h1 : ApAtP w0 fn sv Bs l D ss W1 := ap_abidesP w0 fn sv Bs l D _ (Nat.le_refl _) ss W W1 none h hg1 (fun r e => by cases e)
  rw [hW1]
  generalize W.heap.size = vb at *
  clear h hg1 hW1
  obtain ⟨v, hv, hrow, _⟩ := h1.box
  have hl : l < W1.heap.size := (Array.getElem?_eq_some_iff.1 h1.L).1
  have hvl : vb ≠ l := by omega
  have hvB : vb ≠ Bs := by omega
  have hbr := run_beginRound (P := Tryz.prog) h1.L rfl
  obtain ⟨W2, hW2⟩ : ∃ W2, W1.putObj l (.loop { apRecP fn sv Bs D .ready none with state := .busy }) = W2 := ⟨_, rfl⟩
  rw [hW2] at hbr
  have hg2 : W1.grownBy W2 (some l) := by rw [← hW2]; exact grownBy_putObj_a _ _ _
  have hk2 : KeepsWalks W W2 := hk1.trans (by rw [← hW2]; exact KeepsWalks.putObj _ h1.L rfl)
  have hv2 : W2.heap[Bs]? = some (.cells #[v] 41 (0, 0)) := by rw [← hW2]; exact (World.putObj_heap_other hBl).trans hv
  have hx2 : W2.heap[vb]? = some (.cells #[.int .i64 x1, .int .i64 x2] 91 (0, 0)) := by rw [← hW2]; exact (World.putObj_heap_other hvl).trans hx1
  have hK2 : W2.heap[D]? = some (.deferred (some [])) := by rw [← hW2]; exact (World.putObj_heap_other hDl).trans h1.K
  have hL2 : W2.heap[l]? = some (.loop { apRecP fn sv Bs D .ready none with state := .busy }) := by rw [← hW2]; exact World.putObj_heap_same hl
  have hrow2 : W2.ownsRow w0.heap.size 91 2 v ss.length (ss.flatMap pairCl) := hrow.kept hg2 (ownsRow_ne_a hrow h1.L (fun cur e => by first | cases e | exact hne (Obj.cells.inj e).2.1))
  have hb2 : Below w0.heap.size w0 W2 := h1.below.grown hg2 h1.below.size (fun k e => by cases e; exact h0l)
  obtain ⟨hc2, hf2⟩ := cell_of_box_a hv2
  have hcx1 : W2.cell? ⟨vb, 0, none⟩ = some (.int .i64 x1) := by rw [cell_of_row _ _ _ _ _ _ hx2]; rfl
  have hcx2 : W2.cell? ⟨vb, 1, none⟩ = some (.int .i64 x2) := by rw [cell_of_row _ _ _ _ _ _ hx2]; rfl
  have hBlt : Bs < W2.heap.size := (Array.getElem?_eq_some_iff.1 hv2).1
  have hl2 : l < W2.heap.size := (Array.getElem?_eq_some_iff.1 hL2).1
  have hDlt : D < W2.heap.size := (Array.getElem?_eq_some_iff.1 hK2).1
  have ne_of : ∀ {j : Nat} {o : Obj}, W2.heap[j]? = some o → (∀ cur, o ≠ .cells cur 91 (0, 0)) → some j ≠ v.ownBlock := fun hj hno => by
    rcases ownsRow_ne_a hrow2 hj hno with e | e
    · rw [e]; simp
    · exact fun e' => e e'.symm
  clear hW2
  refine ⟨W2, hbr, ?_⟩
  unfold apBodyP
  gi_wp2_with (first
    | (gi_at_builtin; refine wpListIn_append_own _ rfl _ _ 41 rfl w0.heap.size 91 i0 (.agg #[.int .i64 0, .int .i64 0]) 2 16 Tryz.underlying41 hi hz0 hz1 hz2 rfl (by decide) _ _ _ rfl (hrow2.alloc _) ⟨W2.heap.size, 0, none⟩ 1 1 [.int .i64 x1, .int .i64 x2] rfl rfl (cell_two_new _ _ _ _) (by simp [Value.oneCell']) (by omega) (by omega) (by have := hb2.size; simp; omega) ?_; intro v' w3 hown' hg3 hnil3
       have hv3 : w3.heap[Bs]? = some (.cells #[v] 41 (0, 0)) := (hg3.block Bs (by simp; omega) (ne_of hv2 (fun cur e => by first | cases e | exact hne (Obj.cells.inj e).2.1))).trans ((Below.heap_alloc _ _ Bs hBlt).trans hv2)
       obtain ⟨hc3, hf3⟩ := cell_of_box_a hv3
       obtain ⟨g', cap', cur', rfl, hbase', hgb', hr1, hr2, hr3, hr4⟩ : ∃ g' cap' cur', v' = .slice (some ⟨g', 0, none⟩) (ss.length + 1) cap' ∧ w0.heap.size ≤ g' ∧ w3.heap[g']? = some (.cells cur' 91 (0, 0)) ∧ ss.length + 1 ≤ cap' ∧ cap' ≤ maxLen ∧ cur'.size = cap' * 2 ∧ cur'.toList.take ((ss.length + 1) * 2) = ss.flatMap pairCl ++ [.int .i64 x1, .int .i64 x2] := by
         rcases hown'.2 with ⟨_, h0⟩ | h'
         · exact absurd h0 (by omega)
         · exact h'
       go_frame)
    | gi_round_op_a)
  have hg3' : (W2.alloc (.cells #[.int .i64 x1, .int .i64 x2] 91)).grownBy w3 v.ownBlock := hg3
  have hL3 : w3.heap[l]? = some (.loop { apRecP fn sv Bs D .ready none with state := .busy }) := (hg3'.block l (by simp; omega) (ne_of hL2 (fun cur e => by first | cases e | exact hne (Obj.cells.inj e).2.1))).trans ((Below.heap_alloc _ _ l hl2).trans hL2)
  have hK3 : w3.heap[D]? = some (.deferred (some [])) := (hg3'.block D (by simp; omega) (ne_of hK2 (fun cur e => by first | cases e | exact hne (Obj.cells.inj e).2.1))).trans ((Below.heap_alloc _ _ D hDlt).trans hK2)
  obtain ⟨w4, hw4⟩ : ∃ w4, w3.setCell ⟨Bs, 0, none⟩ (.slice (some ⟨g', 0, none⟩) (ss.length + 1) cap') = w4 := ⟨_, rfl⟩
  rw [hw4]
  have hg4 : w3.grownBy w4 (some Bs) := by rw [← hw4]; exact grownBy_setCell0_a _ _ _
  have hv4 : w4.heap[Bs]? = some (.cells #[.slice (some ⟨g', 0, none⟩) (ss.length + 1) cap'] 41 (0, 0)) := by rw [← hw4]; exact heap_setCell_box_a _ hv3
  have hL4 : w4.heap[l]? = some (.loop { apRecP fn sv Bs D .ready none with state := .busy }) := (hg4.block l (Array.getElem?_eq_some_iff.1 hL3).1 (fun e => hBl (by cases e; rfl))).trans hL3
  have hK4 : w4.heap[D]? = some (.deferred (some [])) := (hg4.block D (Array.getElem?_eq_some_iff.1 hK3).1 (fun e => hDB (by cases e; rfl))).trans hK3
  have hrow4 := hown'.kept hg4 (ownsRow_ne_a hown' hv3 (fun cur e => by first | cases e | exact hne (Obj.cells.inj e).2.1))
  have hl4 : l < w4.heap.size := (Array.getElem?_eq_some_iff.1 hL4).1
  have hb3 : Below w0.heap.size w0 w3 := (hb2.alloc hb2.size _).grown hg3' (by have := hb2.size; simp; omega) (fun k e => (hrow2.lt k e).1)
  have hb4 : Below w0.heap.size w0 w4 := hb3.grown hg4 hb3.size (fun k e => by cases e; exact h0B)
  have hk4 : KeepsWalks W w4 := ((hk2.trans (KeepsWalks.alloc _ _)).trans (KeepsWalks.of_grownBy hg3' (ownsRow_not_walk_a (hrow2.alloc _)))).trans (by rw [← hw4]; exact KeepsWalks.setCell _ _ _)
  clear hw4
  refine ⟨_, _, run_endRound none hL4, rfl, ⟨⟨_, (World.putObj_heap_other hBl).trans hv4, ?_, by simp⟩, World.putObj_heap_same hl4, (World.putObj_heap_other hDl).trans hK4, hb4.grown (grownBy_putObj_a _ _ _) hb4.size (fun k e => by cases e; exact h0l)⟩, hk4.trans (KeepsWalks.putObj _ hL4 rfl)⟩
  have := hrow4.kept (grownBy_putObj_a w4 l (.loop { { apRecP fn sv Bs D .ready none with state := .busy } with state := if (none : Option Code).isNone then .ready else .done, pending := none })) (ownsRow_ne_a hrow4 hL4 (fun cur e => by first | cases e | exact hne (Obj.cells.inj e).2.1))
  rw [List.flatMap_append, List.length_append]
  simpa [pairCl] using this
set_option maxRecDepth 100000 in
set_option maxHeartbeats 2000000 in
theorem appendSeqP_in (F : Fence) (n : Nat) (h11 : F.fn 104) (hro : F.round = none) (hn : 2 ≤ n) (g : Nat) (lb : Array Value) (hFg : F.fn g) (eg : ∀ args w, (callFunc g args).run Tryz.prog w = .ok (.enter g args) w)
    (S : List Pr → Prop) (N : Nat) (hN : N ≤ maxLen) (hNb : N * 16 ≤ 140737488355328) (w : World) (hseq : SeqGives F (n - 1) Tryz.prog g lb pairV S N w) :
    CallsIn F n Tryz.prog 104 #[.slice none 0 0, .func (.func g) #[] lb] w fun e w' => ∃ (v : Value) (ss : List Pr), e = .returned v ∧ S ss ∧ w'.ownsRow w.heap.size 91 2 v ss.length (ss.flatMap pairCl) ∧ (v = .slice none 0 0 ↔ ss = []) ∧ Below w.heap.size w w' := by
  have h1 : 1 ≤ n := by omega
  have hne : 41 ≠ 91 := by decide
  refine callsIn_of_wp_marks Tryz.func104 rfl h11 ?_ hro
  simp only [Tryz.ntmps104, List.size_toArray, List.length_cons, List.length_nil, Nat.reduceAdd, Nat.reduceSub, Array.replicate_succ, Array.replicate_zero, List.push_toArray, List.append_toArray, List.nil_append, List.cons_append]
  gi_wp2
  refine wpIn_rangeFunc ?_
  intro fn hfn
  rw [hro]
  obtain ⟨W0, hW0⟩ : ∃ W0, w.alloc (.cells #[.slice none 0 0] 41) = W0 := ⟨_, rfl⟩
  have hs0 : W0.heap.size = w.heap.size + 1 := by rw [← hW0]; simp
  have hv0 : W0.heap[w.heap.size]? = some (.cells #[.slice none 0 0] 41 (0, 0)) := by rw [← hW0]; exact World.alloc_heap_new w _
  have hb0 : Below w.heap.size w W0 := by rw [← hW0]; exact (Below.refl _ w).alloc (Nat.le_refl _) _
  rw [hW0]
  obtain ⟨W1, hW1⟩ : ∃ W1, (W0.alloc (.deferred (some []))).alloc (.loop (apRecP fn (.func (.func g) #[] lb) w.heap.size W0.heap.size .ready none)) = W1 := ⟨_, rfl⟩
  have hold : ∀ k, k < W0.heap.size → W1.heap[k]? = W0.heap[k]? := fun k hk => by
    rw [← hW1]; exact (Below.heap_alloc _ _ k (by simp; omega)).trans (Below.heap_alloc _ _ k hk)
  have hb1 : Below w.heap.size w W1 := by rw [← hW1]; exact (hb0.alloc hb0.size _).alloc (by have := hb0.size; simp; omega) _
  have hs1 : W1.heap.size = W0.heap.size + 2 := by rw [← hW1]; simp
  have hM : ApAtP w fn (.func (.func g) #[] lb) w.heap.size (W0.heap.size + 1) W0.heap.size [] W1 :=
    ⟨⟨_, (hold w.heap.size (by omega)).trans hv0, ⟨rfl, .inl ⟨rfl, rfl⟩⟩, by simp⟩,
     by rw [← hW1]; have := World.alloc_heap_new (W0.alloc (.deferred (some []))) (.loop (apRecP fn (.func (.func g) #[] lb) w.heap.size W0.heap.size .ready none)); rwa [World.size_alloc] at this,
     by rw [← hW1]; exact (Below.heap_alloc _ _ _ (by simp)).trans (World.alloc_heap_new W0 _), hb1⟩
  refine ⟨W0.heap.size + 1, [{ target := .collected W0.heap.size, args := #[] }], W1, { target := .fn (.func g) lb, args := #[.func (.yield (W0.heap.size + 1)) #[] #[]] }, W1, g,
    #[.func (.yield (W0.heap.size + 1)) #[] #[]] ++ lb, W1, ?_, ?_, ?_, ?_, fun _ => h1, ?_⟩
  · rw [← hW1]; exact run_enterLoop_outer _ _ _ _ _
  · simp [resolve, go_sem]
  · intro f' hf'; simp [Target.leads] at hf'; subst hf'; exact hFg
  · simp [invoke, go_sem, eg]
  · refine (hseq (W0.heap.size + 1) (ApAtP w fn (.func (.func g) #[] lb) w.heap.size (W0.heap.size + 1) W0.heap.size) W1 hb1 (ap_abidesP _ _ _ _ _ _ _ hb1.size)
      (fun pre x W hJ hl => apYieldP F (n - 1 - 1) w fn hfn _ w.heap.size (W0.heap.size + 1) W0.heap.size (by omega) (by omega) (by omega) (Nat.le_refl _) (by omega) N hN hNb pre x W hJ hl) hM).mono ?_
    rintro e W2 ⟨⟨v0, rfl⟩, ss, hS, h2⟩
    obtain ⟨v, hv, hrow, hnil⟩ := h2.box
    have hend := run_endLoop (P := Tryz.prog) h2.L (by simp [apRecP])
    obtain ⟨W3, hW3⟩ : ∃ W3, W2.putObj (W0.heap.size + 1) (.loop { apRecP fn (.func (.func g) #[] lb) w.heap.size W0.heap.size .ready none with state := .exhausted }) = W3 := ⟨_, rfl⟩
    rw [hW3] at hend
    have hg3 : W2.grownBy W3 (some (W0.heap.size + 1)) := by rw [← hW3]; exact grownBy_putObj_a _ _ _
    have hv3 : W3.heap[w.heap.size]? = some (.cells #[v] 41 (0, 0)) := by rw [← hW3]; exact (World.putObj_heap_other (by omega)).trans hv
    have hK3 : W3.heap[W0.heap.size]? = some (.deferred (some [])) := by rw [← hW3]; exact (World.putObj_heap_other (by omega)).trans h2.K
    have hrow3 := hrow.kept hg3 (ownsRow_ne_a hrow h2.L (fun cur e => by first | cases e | exact hne (Obj.cells.inj e).2.1))
    have hb3 : Below w.heap.size w W3 := h2.below.grown hg3 h2.below.size (fun k e => by cases e; omega)
    obtain ⟨hc3, hf3⟩ := cell_of_box_a hv3
    clear hW3
    refine ⟨none, W3, hend, ?_⟩
    gi_wp2
    rw [← hs0]
    refine ⟨by simp, .inl ⟨_, _, rfl, run_takeDeferred hK3, ?_⟩⟩
    exact ⟨_, results_tmp rfl _ _ _, v, ss, rfl, hS, hrow3.kept (grownBy_putObj_a _ _ _) (ownsRow_ne_a hrow3 hK3 (fun cur e => by first | cases e | exact hne (Obj.cells.inj e).2.1)), hnil, hb3.grown (grownBy_putObj_a _ _ _) hb3.size (fun k e => by cases e; omega)⟩
set_option maxHeartbeats 1000000 in
theorem collectP_in (F : Fence) (n : Nat) (h8 : F.fn 69) (h11 : F.fn 104) (hro : F.round = none) (hn : 3 ≤ n) (g : Nat) (lb : Array Value) (hFg : F.fn g) (eg : ∀ args w, (callFunc g args).run Tryz.prog w = .ok (.enter g args) w)
    (S : List Pr → Prop) (N : Nat) (hN : N ≤ maxLen) (hNb : N * 16 ≤ 140737488355328) (w : World) (hseq : SeqGives F (n - 1 - 1) Tryz.prog g lb pairV S N w) :
    CallsIn F n Tryz.prog 69 #[.func (.func g) #[] lb] w fun e w' => ∃ (v : Value) (ss : List Pr), e = .returned v ∧ S ss ∧ w'.ownsRow w.heap.size 91 2 v ss.length (ss.flatMap pairCl) ∧ (v = .slice none 0 0 ↔ ss = []) ∧ Below w.heap.size w w' := by
  have h1 : 1 ≤ n := by omega
  refine callsIn_of_wp Tryz.func69 rfl h8 ?_ hro
  simp only [Tryz.ntmps69, List.size_toArray, List.length_cons, List.length_nil, Nat.reduceAdd, Nat.reduceSub, Array.replicate_succ, Array.replicate_zero, List.push_toArray, List.append_toArray, List.nil_append, List.cons_append]
  gi_wp2_with (gi_at_call 104; refine (appendSeqP_in F (n - 1) h11 hro (by omega) g lb hFg eg S N hN hNb _ hseq).mono ?_; rintro e w' ⟨v, ss, rfl, hS, hrow, hnil, hb⟩)
  go_ret
  exact ⟨v, ss, rfl, hS, hrow, hnil, hb⟩
end Go.Proofs.YtljdbikodogeiaaGreatDoor
namespace Go.Proofs.YtljdbikodogeiaaGreatDoor
open Go.RowKit Go.Maps Go.Sort Go.Shelf Go.WideElems Go.WideShapes
set_option maxRecDepth 100000 in
set_option maxHeartbeats 1000000 in
theorem keysP_nil_in (F : Fence) (n : Nat) (h10 : F.fn 71) (hro : F.round = none) (l Bm : Nat) (J : List Pr → World → Prop) (W : World) (hJ : AbidesFrom W.heap.size J)
    (hm : W.cell? ⟨Bm, 0, none⟩ = some (.map none)) (h0 : J [] W) :
    CallsIn F n Tryz.prog 71 #[.func (.yield l) #[] #[], .pointer (some ⟨Bm, 0, none⟩)] W fun e W' => (∃ v, e = .returned v) ∧ ∃ ss : List Pr, ss = [] ∧ J ss W' := by
  refine callsIn_of_wp Tryz.func71 rfl h10 ?_ hro
  simp only [Tryz.ntmps71, List.size_toArray, List.length_cons, List.length_nil, Nat.reduceAdd, Nat.reduceSub, Array.replicate_succ, Array.replicate_zero, List.push_toArray, List.append_toArray, List.nil_append, List.cons_append]
  have hrg := run_range_nilMap (P := Tryz.prog) W 80 91 4 Tryz.underlying80
  have hnx : ∀ ty, (Instr.next (.pointer (some ⟨W.heap.size, 0, none⟩)) false ty).run Tryz.prog (W.alloc (.mapIter none 0 #[] 0)) = _ := fun ty => run_next_nilMap _ ty 0 0 #[]
  gi_wp2
  refine wpIn_loop_rounds 1 ?_
  rw [roundsIn_succ]
  gi_wp2
  go_end0
  exact ⟨⟨_, rfl⟩, [], rfl, hJ [] W _ none h0 (World.grownBy_alloc W _ none) (fun r e => by cases e)⟩
theorem keysP_gives_nil (F : Fence) (n : Nat) (h10 : F.fn 71) (hro : F.round = none) (Bm : Nat) (w : World) (hBm : Bm < w.heap.size) (hm : w.cell? ⟨Bm, 0, none⟩ = some (.map none)) :
    SeqGives F n Tryz.prog 71 #[.pointer (some ⟨Bm, 0, none⟩)] pairV (fun ss : List Pr => ss = []) 0 w := fun l J W hW hJ _ h0 =>
  keysP_nil_in F n h10 hro l Bm J W hJ ((hW.cell (p := ⟨Bm, 0, none⟩) hBm).trans hm) h0
/-- the keys of a map of the call's own, as they stand -/
def KeysAre (ents : Array MapEntry) (l : List Pr) : Prop := ents.toList.map (fun e => e.key) = l.map pairV
theorem ownsRow_at {w : World} {base n : Nat} {v : Value} {ss : List Pr} (h : w.ownsRow base 91 2 v ss.length (ss.flatMap pairCl)) (S : Nat → Prop) (hn : n = ss.length) :
    ∃ b, OwnAt S w 2 (ss.map fun x => [.v (.int .i64 x.1), .v (.int .i64 x.2)]) v b ∧ ∀ c, b = some c → base ≤ c ∧ c < w.heap.size := by
  obtain ⟨hlen, hcase⟩ := h
  have h1 : ∀ e ∈ (ss.map fun x => ([.v (.int .i64 x.1), .v (.int .i64 x.2)] : List D)), e.length = 2 := fun e he => by
    obtain ⟨x, _, rfl⟩ := List.mem_map.1 he
    rfl
  rcases hcase with ⟨rfl, hz⟩ | ⟨g, cap, cur, rfl, hge, hg, hnc, hcm, hcs, ht⟩
  · have : ss = [] := List.eq_nil_of_length_eq_zero hz
    subst this
    exact ⟨none, ⟨h1, Or.inl ⟨rfl, rfl, none, rfl⟩⟩, fun c hc => by cases hc⟩
  · refine ⟨some g, ⟨h1, Or.inr ⟨g, _, cur, cap, rfl, by rw [List.length_map], hg, by rw [List.length_map]; exact hnc, hcm, hcs, fun i j e x he hx => ?_⟩⟩, fun c hc => by injection hc with hc; subst hc; exact ⟨hge, lt_of_block hg⟩⟩
    rw [List.getElem?_map] at he
    cases hq : ss[i]? with
    | none => rw [hq] at he; cases he
    | some y =>
      rw [hq] at he
      injection he with he
      subst he
      have hi := (List.getElem?_eq_some_iff.1 hq).1
      have hj : j < 2 := by
        have := (List.getElem?_eq_some_iff.1 hx).1
        simpa using this
      have hy : ss[i] = y := (List.getElem?_eq_some_iff.1 hq).2
      have hf := flat_get pairCl 2 (fun _ => rfl) ss i j hi hj
      rw [← ht, List.getElem?_take_of_lt (by omega), hy] at hf
      match j, hj with
      | 0, _ =>
        injection hx with hx
        subst hx
        exact ⟨.int .i64 y.1, by simpa [pairCl] using hf, .v _ rfl⟩
      | 1, _ =>
        injection hx with hx
        subst hx
        exact ⟨.int .i64 y.2, by simpa [pairCl] using hf, .v _ rfl⟩
/-- slices.Collect at what maps.Keys handed back -/
theorem collect_keys (l : List Pr) (hl : l.length ≤ 1000000) (hr : ∀ x ∈ l, inR x) (w : World) (bb mb : Nat) (ents : Array MapEntry) (clock : Nat) (hbb : bb < w.heap.size) (hcell : w.cell? ⟨bb, 0, none⟩ = some (.map (some mb)))
    (hmb : w.heap[mb]? = some (.map ents clock)) (hst : MapKept.Stamped ents clock) (hk : KeysAre ents l) :
    Calls Tryz.prog 69 #[.func (.func 71) #[] #[.pointer (some ⟨bb, 0, none⟩)]] w fun e w' => ∃ (v : Value) (ss : List Pr) (b : Option Nat), e = .returned v ∧ ss.Perm l ∧ Below w.heap.size w w' ∧ OwnAt (fun _ => False) w' 2 (ss.map fun x => [.v (.int .i64 x.1), .v (.int .i64 x.2)]) v b ∧ ∀ c, b = some c → w.heap.size ≤ c ∧ c < w'.heap.size := by
  let R : Value → Option (DataW Unit × List MemPlace) := fun _ => some (.lit (.bool true), [])
  have hsz : ents.size = l.length := by
    have := congrArg List.length hk
    simpa using this
  have hkey : ∀ (j : Nat) (e : MapEntry), ents[j]? = some e → ∃ x, l[j]? = some x ∧ e.key = pairV x := by
    intro j e he
    have h1 : (ents.toList.map (fun e => e.key))[j]? = some e.key := by
      rw [List.getElem?_map, Array.getElem?_toList, he]
      rfl
    rw [hk, List.getElem?_map] at h1
    cases hq : l[j]? with
    | none => rw [hq] at h1; cases h1
    | some x =>
      rw [hq] at h1
      injection h1 with h1
      exact ⟨x, rfl, h1.symm⟩
  have hrd : ∀ (j : Nat) (e : MapEntry), ents[j]? = some e → ∃ x, l[j]? = some x ∧ rd Tryz.prog 91 R e = some (klit x, .lit (.bool true)) := by
    intro j e he
    obtain ⟨x, hx, hex⟩ := hkey j e he
    have h1 : keyOf Tryz.prog 91 e.key = some (klit x) := by rw [hex]; exact key_pair (hr x (List.mem_of_getElem? hx))
    exact ⟨x, hx, rd_mk (R := R) (val := e.val) (born := e.born) h1 rfl⟩
  have hF : Fit Tryz.prog 91 R ents clock := ⟨by rw [hsz]; simp only [maxLen]; omega, hst, fun x hx => by
    obtain ⟨j, hj⟩ := List.getElem?_of_mem hx
    obtain ⟨k, _, h2⟩ := hrd j x (by simpa using hj)
    exact ⟨_, h2⟩⟩
  let D0 : DataW Unit := .map ((ents.toList.map (rg Tryz.prog 91 R)).foldr DataW.insert [])
  have hown : w.ownsMap Tryz.prog 91 R mb ents.size D0 := ⟨ents, clock, hmb, hF, Nat.le_refl _, rfl⟩
  have hfold : ∀ q : List (Lit × DataW Unit), (q.foldr DataW.insert []).Perm q := fun q => by
    induction q with
    | nil => exact .nil
    | cons x q ih => exact (insert_perm x _).trans (ih.cons x)
  have hperm := hfold (ents.toList.map (rg Tryz.prog 91 R))
  have hsize : Maps.size D0 = l.length := by
    show ((ents.toList.map (rg Tryz.prog 91 R)).foldr DataW.insert []).length = _
    rw [hperm.length_eq, List.length_map, Array.length_toList, hsz]
  have hkeys : ((ents.toList.map (rg Tryz.prog 91 R)).map fun p => p.1) = l.map klit := by
    apply List.ext_getElem?
    intro j
    rw [List.map_map, List.getElem?_map, List.getElem?_map]
    cases he : ents.toList[j]? with
    | none =>
      have : ents.size ≤ j := by simpa using he
      rw [List.getElem?_eq_none (by omega)]
      rfl
    | some e =>
      obtain ⟨x, hx, h2⟩ := hrd j e (by simpa using he)
      rw [hx]
      simp only [Option.map_some, Function.comp, rg_of h2]
  have hhas : ∀ x, inR x → (has D0 (klit x) = true ↔ x ∈ l) := by
    intro x hx
    show has (.map _) (klit x) = true ↔ _
    rw [has_eq, List.any_eq_true]
    constructor
    · rintro ⟨p, hp, hs⟩
      have hp' : p.1 ∈ l.map klit := by rw [← hkeys]; exact List.mem_map_of_mem (hperm.mem_iff.1 hp)
      obtain ⟨y, hy, hyp⟩ := List.mem_map.1 hp'
      rw [← hyp, same_klit] at hs
      rw [← klit_inj (hr y hy) hx hs]
      exact hy
    · intro hm
      have : klit x ∈ (ents.toList.map (rg Tryz.prog 91 R)).map fun p => p.1 := by rw [hkeys]; exact List.mem_map_of_mem hm
      obtain ⟨p, hp, hpx⟩ := List.mem_map.1 this
      exact ⟨p, hperm.mem_iff.2 hp, by rw [hpx]; exact (same_klit x x).2 rfl⟩
  have hnd : l.Nodup := by
    have h1 : (l.map pairV).Nodup := by
      rw [← hk]
      exact hst.2.2
    exact (List.pairwise_map.1 h1).imp fun h e => h (by rw [e])
  have hseq : SeqGives Fence.wide 3 Tryz.prog 71 #[.pointer (some ⟨bb, 0, none⟩)] pairV (CollP D0 fun _ => false) (Maps.size D0) w :=
    keysP_gives Fence.wide _ trivial rfl (by omega) bb mb ents.size D0 w hbb hcell hown
  have cS := collectP_in Fence.wide 5 trivial trivial rfl (by omega) 71 #[.pointer (some ⟨bb, 0, none⟩)] trivial (fun args w => Tryz.call71 args w) _ (Maps.size D0) (by rw [hsize]; simp only [maxLen]; omega) (by rw [hsize]; omega) w hseq
  refine ((callsIn_wide (n := 5)).1 cS).mono ?_
  rintro e w' ⟨v, ss, rfl, hS, hrow, hnil, hb⟩
  have hp : ss.Perm l := (List.perm_ext_iff_of_nodup hS.nodup hnd).2 fun x => by
    constructor
    · intro hx
      have hi := hS.rng x hx
      exact (hhas x hi).1 ((hS.mem x hi).1 hx).1
    · intro hx
      have hi := hr x hx
      exact (hS.mem x hi).2 ⟨(hhas x hi).2 hx, rfl⟩
  obtain ⟨b, hb1, hb2⟩ := ownsRow_at hrow (fun _ => False) rfl
  exact ⟨v, ss, b, rfl, hp, hb, hb1, hb2⟩
theorem collect_nil (w : World) (bb : Nat) (hbb : bb < w.heap.size) (hcell : w.cell? ⟨bb, 0, none⟩ = some (.map none)) :
    Calls Tryz.prog 69 #[.func (.func 71) #[] #[.pointer (some ⟨bb, 0, none⟩)]] w fun e w' => e = .returned (.slice none 0 0) ∧ Below w.heap.size w w' := by
  have cS := collectP_in Fence.wide 5 trivial trivial rfl (by omega) 71 #[.pointer (some ⟨bb, 0, none⟩)] trivial (fun args w => Tryz.call71 args w) _ 0 (by omega) (by omega) w (keysP_gives_nil Fence.wide _ trivial rfl bb w hbb hcell)
  refine ((callsIn_wide (n := 5)).1 cS).mono ?_
  rintro e w' ⟨v, ss, rfl, rfl, hrow, hnil, hb⟩
  exact ⟨by rw [hnil.2 rfl], hb⟩
end Go.Proofs.YtljdbikodogeiaaGreatDoor
namespace Go.Proofs.YtljdbikodogeiaaGreatDoor
open Go.RowKit Go.Maps Go.MapKept
def putP (l : List Pr) (x : Pr) : List Pr := if x ∈ l then l else l ++ [x]
theorem keys_of {ents : Array MapEntry} {l : List Pr} (hk : KeysAre ents l) (hr : ∀ x ∈ l, inR x) : ∀ e ∈ ents.toList, ∃ k, keyOf Tryz.prog 91 e.key = some k := fun e he => by
  have h1 : e.key ∈ ents.toList.map fun e => e.key := List.mem_map_of_mem he
  rw [hk] at h1
  obtain ⟨x, hx, h2⟩ := List.mem_map.1 h1
  exact ⟨_, by rw [← h2]; exact key_pair (hr x hx)⟩
theorem mem_keys {ents : Array MapEntry} {l : List Pr} (hk : KeysAre ents l) (x : Pr) : x ∈ l ↔ ∃ e ∈ ents.toList, e.key = pairV x := by
  constructor
  · intro hx
    have h1 : pairV x ∈ ents.toList.map fun e => e.key := by rw [hk]; exact List.mem_map_of_mem hx
    obtain ⟨e, he, h2⟩ := List.mem_map.1 h1
    exact ⟨e, he, h2⟩
  · rintro ⟨e, he, h2⟩
    have h1 : e.key ∈ ents.toList.map fun e => e.key := List.mem_map_of_mem he
    rw [hk, h2] at h1
    obtain ⟨y, hy, h3⟩ := List.mem_map.1 h1
    rw [← pairV_inj h3]
    exact hy
theorem run_mupd (w : World) (r : Nat) (es : Array MapEntry) (clock : Nat) (l : List Pr) (x : Pr) (v : Value) (hb : w.heap[r]? = some (.map es clock)) (hst : Stamped es clock) (hk : KeysAre es l) (hr : ∀ x ∈ l, inR x) (hx : inR x) :
    ∃ es' clock', (Instr.mapUpdate 80 (.map (some r)) (pairV x) v).run Tryz.prog w = .ok () { w with heap := w.heap.setIfInBounds r (.map es' clock') } ∧ Stamped es' clock' ∧ KeysAre es' (putP l x) := by
  have hkx := key_pair hx
  rcases keyed44.find w hkx es.toList (keys_of hk hr) with ⟨h1, h2⟩ | ⟨j, e, h1, h2, h3⟩
  · refine ⟨es.push { key := pairV x, val := v, born := clock }, clock + 1, ?_, stamped_push hst h2, ?_⟩
    · simp [Instr.mapUpdate, run_underlying Tryz.underlying80, MapKept.run_getObj_map hb, keyed44.check w false hkx, h1, MapKept.run_setObj_map _ hb, Result.andThen]
    · have : x ∉ l := fun hm => by
        obtain ⟨e, he, h3⟩ := (mem_keys hk x).1 hm
        exact h2 e he h3
      unfold KeysAre putP at *
      rw [if_neg this, Array.toList_push, List.map_append, hk, List.map_append]
      rfl
  · have hj : es[j]? = some e := by simpa using h2
    have hkey : ∀ e', es[j]? = some e' → ({ e' with key := pairV x, val := v } : MapEntry).key = e'.key := fun e' he' => by rw [hj] at he'; cases he'; exact h3.symm
    refine ⟨es.modify j fun e => { e with key := pairV x, val := v }, clock, ?_, stamped_modify hst _ _ (fun _ _ => rfl) (fun e' _ he' => hkey e' he'), ?_⟩
    · simp [Instr.mapUpdate, run_underlying Tryz.underlying80, MapKept.run_getObj_map hb, keyed44.check w false hkx, h1, hj, h3, keyed44.stays w hkx, MapKept.run_setObj_map _ hb, Result.andThen]
    · have hm : x ∈ l := (mem_keys hk x).2 ⟨e, List.mem_of_getElem? h2, h3⟩
      unfold KeysAre putP at *
      rw [if_pos hm, modify_keys j _ hkey, hk]
theorem erase_idx {α : Type} [BEq α] [LawfulBEq α] (l : List α) (hn : l.Nodup) (j : Nat) (x : α) (h : l[j]? = some x) : l.erase x = l.eraseIdx j := by
  induction l generalizing j with
  | nil => cases h
  | cons a l ih =>
    cases j with
    | zero =>
      injection h with h
      subst h
      simp
    | succ j =>
      have h' : l[j]? = some x := by simpa using h
      have hne : a ≠ x := fun e => (List.nodup_cons.1 hn).1 (by rw [e]; exact List.mem_of_getElem? h')
      rw [List.erase_cons_tail (by simpa using hne), List.eraseIdx_cons_succ, ih (List.nodup_cons.1 hn).2 j h']
theorem map_eraseIdx {α β : Type} (f : α → β) (l : List α) (j : Nat) : (l.eraseIdx j).map f = (l.map f).eraseIdx j := by
  induction l generalizing j with
  | nil => simp
  | cons a l ih => cases j with
    | zero => simp
    | succ j => simp [ih]
theorem nodup_of {es : Array MapEntry} {clock : Nat} {l : List Pr} (hst : Stamped es clock) (hk : KeysAre es l) : l.Nodup := by
  have h1 : (l.map pairV).Nodup := by
    rw [← hk]
    exact hst.2.2
  exact (List.pairwise_map.1 h1).imp fun h e => h (by rw [e])
set_option maxRecDepth 100000 in
theorem run_mdel (w : World) (r : Nat) (es : Array MapEntry) (clock : Nat) (l : List Pr) (x : Pr) (ty : TypeId) (hb : w.heap[r]? = some (.map es clock)) (hst : Stamped es clock) (hk : KeysAre es l) (hr : ∀ x ∈ l, inR x) (hx : inR x) :
    ∃ es' clock', (Builtin.delete_ #[80, 91] ty #[.map (some r), pairV x]).run Tryz.prog w = .ok (.tuple #[]) { w with heap := w.heap.setIfInBounds r (.map es' clock') } ∧ Stamped es' clock' ∧ KeysAre es' (l.erase x) := by
  have hkx := key_pair hx
  rcases keyed44.find w hkx es.toList (keys_of hk hr) with ⟨h1, h2⟩ | ⟨j, e, h1, h2, h3⟩
  · refine ⟨es, clock, ?_, hst, ?_⟩
    · simp [Builtin.delete_, run_underlying Tryz.underlying80, MapKept.run_getObj_map hb, keyed44.check w _ hkx, h1, MapKept.run_setObj_map _ hb, Result.andThen]
    · have : x ∉ l := fun hm => by
        obtain ⟨e, he, h3⟩ := (mem_keys hk x).1 hm
        exact h2 e he h3
      unfold KeysAre at *
      rw [List.erase_of_not_mem this]
      exact hk
  · have hj : es[j]? = some e := by simpa using h2
    refine ⟨es.eraseIdxIfInBounds j, clock, ?_, stamped_erase hst _, ?_⟩
    · simp [Builtin.delete_, run_underlying Tryz.underlying80, MapKept.run_getObj_map hb, keyed44.check w _ hkx, h1, MapKept.run_setObj_map _ hb, Result.andThen]
    · have hjl : l[j]? = some x := by
        have h4 : (es.toList.map fun e => e.key)[j]? = some (pairV x) := by rw [List.getElem?_map, h2, ← h3]; rfl
        unfold KeysAre at hk
        rw [hk, List.getElem?_map] at h4
        cases hq : l[j]? with
        | none => rw [hq] at h4; cases h4
        | some y =>
          rw [hq] at h4
          injection h4 with h4
          rw [pairV_inj h4]
      have hlt : j < es.size := (Array.getElem?_eq_some_iff.1 hj).1
      unfold KeysAre at *
      rw [erase_idx l (nodup_of hst hk) j x hjl]
      unfold Array.eraseIdxIfInBounds
      rw [dif_pos hlt, Array.toList_eraseIdx, map_eraseIdx, hk, map_eraseIdx]
theorem putP_in {l : List Pr} {x : Pr} (hr : ∀ y ∈ l, inR y) (hx : inR x) : ∀ y ∈ putP l x, inR y := fun y hy => by
  unfold putP at hy
  split at hy
  · exact hr y hy
  · rcases List.mem_append.1 hy with h | h
    · exact hr y h
    · rw [List.mem_singleton.1 h]; exact hx
end Go.Proofs.YtljdbikodogeiaaGreatDoor
