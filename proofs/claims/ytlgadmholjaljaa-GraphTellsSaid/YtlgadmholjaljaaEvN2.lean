/-
  Evaluation of Go code on plain data: which operations may change places. Over any program.
-/
import Derived.Test.YtlgadmholjaljaaEvN1
namespace Go.Proofs.Ytlgadmholjaljaa
open Go.RowKit
def refsOf : AV → List (Nat × Nat)
  | .agg cs => cs.flatMap refs1
  | .tup cs => cs.flatMap refs1
  | .fn _ cs => cs.flatMap refs1
  | v => refs1 v
theorem refs1_rel {κ : Cx} {v : AV} {x : Value} (h : Rel κ v x) : ∀ p ∈ refs1 v, p.2 ≤ κ.gn p.1 := by
  cases h with
  | lp hg hb => simpa [refs1] using hg
  | rp hg hb => simpa [refs1] using hg
  | row0 A hg => simpa [refs1] using hg
  | row hg => simpa [refs1] using hg
  | sub0 A hg => simpa [refs1] using hg
  | sub A hg => simpa [refs1] using hg
  | mp hg => simpa [refs1] using hg
  | _ => simp [refs1]
theorem refsOf_rel {κ : Cx} {v : AV} {x : Value} (h : Rel κ v x) : ∀ p ∈ refsOf v, p.2 ≤ κ.gn p.1 := by
  have many : ∀ {cs : List AV} {vs : Array Value}, vs.size = cs.length → (∀ (j : Nat) (c : AV) (v : Value), cs[j]? = some c → vs[j]? = some v → Rel κ c v) → ∀ p ∈ cs.flatMap refs1, p.2 ≤ κ.gn p.1 := by
    intro cs vs hl h p hp
    obtain ⟨c, hc, hp⟩ := List.mem_flatMap.1 hp
    obtain ⟨j, hj, rfl⟩ := List.getElem_of_mem hc
    exact refs1_rel (h j cs[j] _ (List.getElem?_eq_getElem hj) (Array.getElem?_eq_getElem (by omega))) p hp
  have h1 := refs1_rel h
  cases h with
  | agg hl h => exact many hl h
  | tup hl h => exact many hl h
  | fn hl h => exact many hl h
  | _ => exact h1
theorem refs1_unk (v : AV) : refs1 (unk1 v) = refs1 v := by cases v <;> rfl
theorem refsOf_unk (v : AV) : refsOf (unk v) = refsOf v := by
  cases v with
  | agg cs =>
    simp only [unk, refsOf, List.flatMap_map]
    congr 1
    funext x
    exact refs1_unk x
  | _ => rfl
section
variable {R : Nat → Nat → Prop} {Z : Nat → Prop}
theorem settle_fits {s : Nat} (hz : ∀ k, Z (s + 65536 * k)) (cz : List Nat) : ∀ (cs : List AV) (j : Nat) (k : List AV → Step), (∀ r, (k r).Fits R Z) → (settle s cz j cs k).Fits R Z
  | [], j, k, h => h []
  | c :: cs, j, k, h => by
    have gen : (settle s cz (j + 1) cs fun r => k (c :: r)).Fits R Z := settle_fits hz cz cs (j + 1) _ fun r => h _
    cases c with
    | nl => exact ⟨hz (j + 1), fun g => settle_fits hz cz cs (j + 1) _ fun r => h _⟩
    | _ => exact gen
theorem dataOf_fits {v : AV} (hr : ∀ p ∈ refs1 v, R p.1 p.2) {k : D → Step} (h : ∀ x, (k x).Fits R Z) : (dataOf v k).Fits R Z := by
  cases v with
  | d x => exact h x
  | nl => exact h _
  | row s g n => exact ⟨hr (s, g) (by simp [refs1]), fun c => ⟨hr (s, g) (by simp [refs1]), h _⟩⟩
  | sub s g o n => exact ⟨hr (s, g) (by simp [refs1]), fun c => ⟨hr (s, g) (by simp [refs1]), h _⟩⟩
  | _ => exact trivial
theorem dataList_fits : ∀ (vs : List AV), (∀ p ∈ vs.flatMap refs1, R p.1 p.2) → ∀ (k : List D → Step), (∀ x, (k x).Fits R Z) → (dataList vs k).Fits R Z
  | [], _, k, h => h []
  | v :: vs, hr, k, h => dataOf_fits (fun p hp => hr p (by simp [hp])) fun x => dataList_fits vs (fun p hp => hr p (by
      rw [List.flatMap_cons]; exact List.mem_append_right _ hp)) _ fun xs => h _
theorem drop_refs (cs : List AV) (o : Nat) : ∀ p ∈ (cs.drop o).flatMap refs1, p ∈ cs.flatMap refs1 := by
  intro p hp
  obtain ⟨c, hc, hp⟩ := List.mem_flatMap.1 hp
  exact List.mem_flatMap.2 ⟨c, List.mem_of_mem_drop hc, hp⟩
theorem cellL0_fits : ∀ (cs : List AV), (∀ p ∈ cs.flatMap refs1, R p.1 p.2) → ∀ (k : List D → List (Nat × Nat) → Step), (∀ ds l, (∀ p ∈ l, R p.1 p.2) → (k ds l).Fits R Z) → (cellL0 cs k).Fits R Z
  | [], _, k, h => h [] [] (by simp)
  | c :: cs, hr, k, h => by
    have hr' : ∀ p ∈ cs.flatMap refs1, R p.1 p.2 := fun p hp => hr p (by rw [List.flatMap_cons]; exact List.mem_append_right _ hp)
    have hc : ∀ p ∈ refs1 c, R p.1 p.2 := fun p hp => hr p (by rw [List.flatMap_cons]; exact List.mem_append_left _ hp)
    have more : ∀ (q : Nat × Nat), R q.1 q.2 → ∀ (x : D), (cellL0 cs fun ds l => k (x :: ds) (q :: l)).Fits R Z := fun q hq x => cellL0_fits cs hr' _ fun ds l hl => h _ _ fun p hp => by
      rcases List.mem_cons.1 hp with rfl | hp
      · exact hq
      · exact hl p hp
    cases c with
    | d x => exact cellL0_fits cs hr' _ fun ds l hl => h _ _ hl
    | mp s g => exact ⟨hc (s, g) (by simp [refs1]), fun ck es => more (s, g) (hc (s, g) (by simp [refs1])) _⟩
    | row s g n => exact ⟨hc (s, g) (by simp [refs1]), fun es => more (s, g) (hc (s, g) (by simp [refs1])) _⟩
    | _ => exact trivial
theorem cellL_fits : ∀ (cs : List AV), (∀ p ∈ cs.flatMap refs1, R p.1 p.2) → ∀ (k : List D → List (Nat × Nat) → Step), (∀ ds l, (∀ p ∈ l, R p.1 p.2) → (k ds l).Fits R Z) → (cellL cs k).Fits R Z
  | [], _, k, h => h [] [] (by simp)
  | c :: cs, hr, k, h => by
    have hr' : ∀ p ∈ cs.flatMap refs1, R p.1 p.2 := fun p hp => hr p (by rw [List.flatMap_cons]; exact List.mem_append_right _ hp)
    have hc : ∀ p ∈ refs1 c, R p.1 p.2 := fun p hp => hr p (by rw [List.flatMap_cons]; exact List.mem_append_left _ hp)
    have more : ∀ (q : Nat × Nat), R q.1 q.2 → ∀ (x : D), (cellL cs fun ds l => k (x :: ds) (q :: l)).Fits R Z := fun q hq x => cellL_fits cs hr' _ fun ds l hl => h _ _ fun p hp => by
      rcases List.mem_cons.1 hp with rfl | hp
      · exact hq
      · exact hl p hp
    cases c with
    | d x => exact cellL_fits cs hr' _ fun ds l hl => h _ _ hl
    | fp ds0 => exact cellL_fits cs hr' _ fun ds l hl => h _ _ hl
    | mp s g => exact ⟨hc (s, g) (by simp [refs1]), fun ck es => more (s, g) (hc (s, g) (by simp [refs1])) _⟩
    | row s g n => exact ⟨hc (s, g) (by simp [refs1]), fun es => more (s, g) (hc (s, g) (by simp [refs1])) _⟩
    | lp s g o => exact ⟨hc (s, g) (by simp [refs1]), fun c0 hc0 => cellL0_fits _ (fun p hp => hc0 p (drop_refs _ _ p hp)) _ fun ds0 l0 hl0 => cellL_fits cs hr' _ fun ds l hl => h _ _ fun p hp => by
        rcases List.mem_cons.1 hp with rfl | hp
        · exact hc (s, g) (by simp [refs1])
        · rcases List.mem_append.1 hp with hp | hp
          · exact hl0 p hp
          · exact hl p hp⟩
    | _ => exact trivial
theorem arg0_fits {v : AV} (hr : ∀ p ∈ refs1 v, R p.1 p.2) {k : AV → List (Nat × Nat) → Step} (h : ∀ x l, (∀ p ∈ l, R p.1 p.2) → (k x l).Fits R Z) : (arg0 v k).Fits R Z := by
  cases v with
  | d x => exact h _ [] (by simp)
  | nl => exact h _ [] (by simp)
  | row s g n => exact ⟨hr (s, g) (by simp [refs1]), fun c => h _ [(s, g)] (by simpa using hr (s, g) (by simp [refs1]))⟩
  | sub s g o n => exact ⟨hr (s, g) (by simp [refs1]), fun c => h _ [(s, g)] (by simpa using hr (s, g) (by simp [refs1]))⟩
  | lp s g o =>
    refine ⟨hr (s, g) (by simp [refs1]), fun c hc => cellL_fits _ (fun p hp => hc p (drop_refs _ _ p hp)) _ fun ds l hl => h _ _ fun p hp => ?_⟩
    rcases List.mem_cons.1 hp with rfl | hp
    · exact hr (s, g) (by simp [refs1])
    · exact hl p hp
  | fp ds => exact h _ [] (by simp)
  | _ => exact trivial
theorem argL_fits : ∀ (vs : List AV), (∀ p ∈ vs.flatMap refs1, R p.1 p.2) → ∀ (k : List AV → List (Nat × Nat) → Step), (∀ x l, (∀ p ∈ l, R p.1 p.2) → (k x l).Fits R Z) → (argL vs k).Fits R Z
  | [], _, k, h => h [] [] (by simp)
  | v :: vs, hr, k, h => arg0_fits (fun p hp => hr p (by simp [hp])) fun x l hl => argL_fits vs (fun p hp => hr p (by
      rw [List.flatMap_cons]; exact List.mem_append_right _ hp)) _ fun xs l' hl' => h _ _ fun p hp => by
      rcases List.mem_append.1 hp with hp | hp
      · exact hl p hp
      · exact hl' p hp
theorem arg1_fits {v : AV} (hr : ∀ p ∈ refsOf v, R p.1 p.2) {k : AV → List (Nat × Nat) → Step} (h : ∀ x l, (∀ p ∈ l, R p.1 p.2) → (k x l).Fits R Z) : (arg1 v k).Fits R Z := by
  cases v with
  | fn f cs => exact argL_fits cs hr _ fun x l hl => h _ l hl
  | agg cs => exact trivial
  | tup cs => exact trivial
  | _ => exact arg0_fits (v := _) (by simpa [refsOf] using hr) h
theorem argT_fits : ∀ (vs : List (Option AV)), (∀ v, some v ∈ vs → ∀ p ∈ refsOf v, R p.1 p.2) → ∀ (k : List AV → List (Nat × Nat) → Step), (∀ x l, (∀ p ∈ l, R p.1 p.2) → (k x l).Fits R Z) → (argT vs k).Fits R Z
  | [], _, k, h => h [] [] (by simp)
  | none :: vs, _, k, h => trivial
  | some v :: vs, hr, k, h => by
    have next : ∀ (x : AV) (l : List (Nat × Nat)), (∀ p ∈ l, R p.1 p.2) → (argT vs fun xs m => k (x :: xs) (l ++ m)).Fits R Z := fun x l hl =>
      argT_fits vs (fun v hv => hr v (by simp [hv])) _ fun xs l' hl' => h _ _ fun p hp => by
        rcases List.mem_append.1 hp with hp | hp
        · exact hl p hp
        · exact hl' p hp
    have hv := hr v (by simp)
    have one : (∀ p ∈ refsOf v, R p.1 p.2) → (arg1 v fun x l => argT vs fun xs m => k (x :: xs) (l ++ m)).Fits R Z := fun h1 => arg1_fits h1 next
    cases v with
    | agg cs => exact argL_fits cs hv _ fun x l hl => next _ l hl
    | tup cs => exact trivial
    | _ => exact one hv
theorem frzL_fits : ∀ (l : List (Nat × Nat)) (k : Step), (∀ p ∈ l, R p.1 p.2) → k.Fits R Z → (frzL l k).Fits R Z
  | [], k, _, h => h
  | (s, g) :: l, k, hl, h => ⟨hl (s, g) (by simp), frzL_fits l k (fun p hp => hl p (by simp [hp])) h⟩
theorem recv1_fits {s : Nat} (hz : Z s) (v : AV) {k : AV → Step} (h : ∀ x, (k x).Fits R Z) : (recv1 s v k).Fits R Z := by
  cases v with
  | ow sz es => exact ⟨hz, fun g => h _⟩
  | d x => exact h _
  | _ => exact trivial
theorem recvL_fits {s : Nat} (hz : ∀ k, Z (s + 65536 * k)) : ∀ (vs : List AV) (j : Nat) (k : List AV → Step), (∀ r, (k r).Fits R Z) → (recvL s j vs k).Fits R Z
  | [], _, _k, h => h []
  | v :: vs, j, _k, h => recv1_fits (hz (j + 1)) v fun _x => recvL_fits hz vs (j + 1) _ fun _r => h _
theorem recvC_fits {s : Nat} (hz : ∀ k, Z (s + 65536 * k)) (v : AV) {k : AV → Step} (h : ∀ x, (k x).Fits R Z) : (recvC s v k).Fits R Z := by
  have one : (recv1 s v k).Fits R Z := recv1_fits (hz 0) v h
  cases v with
  | agg cs => exact recvL_fits hz cs 0 _ fun r => h _
  | _ => exact one
theorem recvT_fits {s : Nat} (hz : ∀ k, Z (s + 65536 * k)) : ∀ (vs : List AV) (j : Nat) (k : List AV → Step), (∀ r, (k r).Fits R Z) → (recvT s j vs k).Fits R Z
  | [], j, k, h => h []
  | v :: vs, j, k, h => recvC_fits (fun k' => by have := hz (16 * (j + 1) + k'); rw [Nat.mul_add, ← Nat.add_assoc, ← Nat.mul_assoc] at this; exact this) v fun x => recvT_fits hz vs (j + 1) _ fun r => h _
theorem recv_fits {s : Nat} (hz : ∀ k, Z (s + 65536 * k)) (v : AV) {k : AV → Step} (h : ∀ x, (k x).Fits R Z) : (recv s v k).Fits R Z := by
  have one : (recvC s v k).Fits R Z := recvC_fits hz v h
  cases v with
  | tup cs => exact recvT_fits hz cs 0 _ fun r => h _
  | _ => exact one
theorem argS1_fits {v : AV} (hr : ∀ p ∈ refsOf v, R p.1 p.2) {k : AV → Step} (h : ∀ x, (∀ p ∈ refs1 x, R p.1 p.2) → (k x).Fits R Z) : (argS1 v k).Fits R Z := by
  have gen : (∀ p ∈ refs1 v, R p.1 p.2) → (dataOf v fun d => k (.d d)).Fits R Z := fun hr => dataOf_fits hr fun x => h _ (by simp [refs1])
  cases v with
  | lp s g o => exact h _ (by simpa [refsOf] using hr)
  | mp s g => exact h _ (by simpa [refsOf] using hr)
  | fp cs => exact h _ (by simp [refs1])
  | agg cs => exact dataList_fits cs hr _ fun ds => h _ (by simp [refs1])
  | tup cs => exact trivial
  | fn f cs => exact trivial
  | _ => exact gen (by simpa [refsOf] using hr)
theorem argS_fits : ∀ (xs : List (Option AV)), (∀ v, some v ∈ xs → ∀ p ∈ refsOf v, R p.1 p.2) → ∀ (k : List AV → Step), (∀ ys, (∀ y ∈ ys, ∀ p ∈ refs1 y, R p.1 p.2) → (k ys).Fits R Z) → (argS xs k).Fits R Z
  | [], _, k, h => h [] (by simp)
  | none :: xs, _, k, h => trivial
  | some v :: xs, hr, k, h => argS1_fits (hr v (by simp)) fun x hx => argS_fits xs (fun v hv => hr v (by simp [hv])) _ fun ys hys => h _ fun y hy => by
      rcases List.mem_cons.1 hy with rfl | hy
      · exact hx
      · exact hys y hy
theorem objC_fits : ∀ (cs : List AV), (∀ p ∈ cs.flatMap refs1, R p.1 p.2) → ∀ (n : Nat) (k : List AV → List (Nat × Nat) → List AV → Step), (∀ zs l is, (k zs l is).Fits R Z) → (objC cs n k).Fits R Z
  | [], _, n, k, h => h [] [] []
  | c :: cs, hr, n, k, h => by
    have hr' : ∀ p ∈ cs.flatMap refs1, R p.1 p.2 := fun p hp => hr p (by rw [List.flatMap_cons]; exact List.mem_append_right _ hp)
    have hc : ∀ p ∈ refs1 c, R p.1 p.2 := fun p hp => hr p (by rw [List.flatMap_cons]; exact List.mem_append_left _ hp)
    cases c with
    | d x => exact objC_fits cs hr' n _ fun zs l is => h _ _ _
    | mp s g => exact ⟨hc (s, g) (by simp [refs1]), fun ck es => objC_fits cs hr' (n + 1) _ fun zs l is => h _ _ _⟩
    | _ => exact trivial
theorem objL_fits : ∀ (ys : List AV), (∀ y ∈ ys, ∀ p ∈ refs1 y, R p.1 p.2) → ∀ (n : Nat) (k : List AV → List (Nat × Nat) → List AV → Step), (∀ zs l is, (k zs l is).Fits R Z) → (objL ys n k).Fits R Z
  | [], _, n, k, h => h [] [] []
  | y :: ys, hr, n, k, h => by
    have hr' : ∀ y ∈ ys, ∀ p ∈ refs1 y, R p.1 p.2 := fun y hy => hr y (by simp [hy])
    have hc := hr y (by simp)
    have dat : (bif datA y then objL ys n fun zs l' is' => k (y :: zs) l' is' else .fail : Step).Fits R Z := by
      cases datA y
      · exact trivial
      · exact objL_fits ys hr' n _ fun zs l is => h _ _ _
    cases y with
    | lp s g o => exact ⟨hc (s, g) (by simp [refs1]), fun cs hcs => objC_fits cs hcs _ _ fun zs l is => objL_fits ys hr' _ _ fun zs' l' is' => h _ _ _⟩
    | mp s g => exact ⟨hc (s, g) (by simp [refs1]), fun ck es => objL_fits ys hr' _ _ fun zs' l' is' => h _ _ _⟩
    | _ => exact dat
theorem objN_fits {s : Nat} (hz : ∀ k, Z (s + 65536 * k)) : ∀ (rest : List AV) (j : Nat) (L : List (Nat × Nat)) (k : List (Nat × Nat) → Step), (∀ L, (k L).Fits R Z) → (objN s j L rest k).Fits R Z
  | [], j, L, k, h => h L
  | b :: rest, j, L, k, h => by
    unfold objN
    split
    · refine ⟨?_, fun g => objN_fits hz rest _ _ _ h⟩
      have := hz (4096 * (j + 1))
      rwa [← Nat.mul_assoc] at this
    · trivial
theorem objV_fits {s : Nat} (hz : ∀ k, Z (s + 65536 * k)) (L : List (Nat × Nat)) (v : AV) : (objV s L v).Fits R Z := by
  have one : (recv s v .ret).Fits R Z := recv_fits hz v fun x => trivial
  cases v with
  | lp s' g o => exact (by cases h : ofC L (.lp s' g o) <;> simp only [objV, h] <;> trivial)
  | mp s' g => exact (by cases h : ofC L (.mp s' g) <;> simp only [objV, h] <;> trivial)
  | _ => exact one
theorem objCall_fits {s : Nat} (hz : ∀ k, Z (s + 65536 * k)) (f : FuncId) (xs : List (Option AV)) (hr : ∀ v, some v ∈ xs → ∀ p ∈ refsOf v, R p.1 p.2) : (objCall s 7 f xs).Fits R Z := by
  refine argS_fits xs hr _ fun ys hys => objL_fits ys hys 0 _ fun zs l is => ?_
  cases nodupL l
  · trivial
  · intro r
    cases r with
    | hp is2 =>
      cases is2 with
      | nil => trivial
      | cons v js =>
        show (bif (js.take l.length).all isNlA then _ else _ : Step).Fits R Z
        cases (js.take l.length).all isNlA
        · trivial
        · exact objN_fits hz _ _ _ _ fun L => objV_fits hz L v
    | _ => trivial
theorem boxF_fits {t : TI} {s : Nat} (hz : ∀ k, Z (s + 65536 * k)) (v : AV) : (boxF t s v).Fits R Z := by
  unfold boxF
  cases (cellsOf v).all isOne
  · trivial
  · exact settle_fits hz _ _ _ _ fun r => ⟨hz 0, fun g => trivial⟩
theorem ldA_fits {t : TI} {cs : List AV} : (ldA t cs).Fits R Z := by
  unfold ldA
  cases t.known
  · trivial
  · cases t.agg
    · cases cs <;> trivial
    · simp only [Bool.not_true, cond_false, cond_true]
      cases Nat.ble t.size cs.length <;> trivial
theorem ldD_fits {t : TI} {cs : List D} : (ldD t cs).Fits R Z := by rw [ldD_eq]; exact ldA_fits
theorem retO_fits {x : Option AV} : (retO x).Fits R Z := by cases x <;> trivial
theorem buildEs_fits (sz n : Nat) : ∀ (parts : List (Nat × Option AV)) (i : Nat) (k : List (List D) → Step), (∀ p ∈ parts, ∀ v, p.2 = some v → ∀ q ∈ (cellsOf v).flatMap refs1, R q.1 q.2) → (∀ es, (k es).Fits R Z) → (buildEs sz n i parts k).Fits R Z
  | [], i, k, _, h => by
    simp only [buildEs]
    cases Nat.beq i n
    · trivial
    · exact h []
  | (j, none) :: r, i, k, _, h => trivial
  | (j, some v) :: r, i, k, hr, h => by
    simp only [buildEs]
    cases (Nat.beq i j && Nat.beq (cellsOf v).length sz && (cellsOf v).all isOne)
    · trivial
    · exact dataList_fits _ (hr (j, some v) (by simp) v rfl) _ fun ds => buildEs_fits sz n r (i + 1) _ (fun p hp => hr p (by simp [hp])) fun es => h _
end
end Go.Proofs.Ytlgadmholjaljaa
