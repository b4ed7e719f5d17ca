/-
  Evaluation of Go code on plain data: which operations may change places. Over any program.
-/
import Derived.Test.YtljdbikodogeiaaGreatDoorEvN1
namespace Go.Proofs.YtljdbikodogeiaaGreatDoor
open Go.RowKit
def refs1 : AV → List (Nat × Nat)
  | .lp s g _ => [(s, g)]
  | .rp s g _ _ => [(s, g)]
  | .row s g _ => [(s, g)]
  | .sub s g _ _ => [(s, g)]
  | .mp s g => [(s, g)]
  | _ => []
def refsOf : AV → List (Nat × Nat)
  | .agg cs => cs.flatMap refs1
  | .tup cs => cs.flatMap refs1
  | .fn _ cs => cs.flatMap refs1
  | v => refs1 v
theorem refs1_rel {κ : Cx} {v : AV} {x : Value} (h : Rel κ v x) : ∀ p ∈ refs1 v, p.2 ≤ κ.gn p.1 := by
  cases h with
  | lp hg hb => simpa [refs1] using hg
  | rp hg hb => simpa [refs1] using hg
  | row0 A hg => simpa [refs1] using hg
  | row hg => simpa [refs1] using hg
  | sub0 A hg => simpa [refs1] using hg
  | sub A hg => simpa [refs1] using hg
  | mp hg => simpa [refs1] using hg
  | _ => simp [refs1]
theorem refsOf_rel {κ : Cx} {v : AV} {x : Value} (h : Rel κ v x) : ∀ p ∈ refsOf v, p.2 ≤ κ.gn p.1 := by
  have many : ∀ {cs : List AV} {vs : Array Value}, vs.size = cs.length → (∀ (j : Nat) (c : AV) (v : Value), cs[j]? = some c → vs[j]? = some v → Rel κ c v) → ∀ p ∈ cs.flatMap refs1, p.2 ≤ κ.gn p.1 := by
    intro cs vs hl h p hp
    obtain ⟨c, hc, hp⟩ := List.mem_flatMap.1 hp
    obtain ⟨j, hj, rfl⟩ := List.getElem_of_mem hc
    exact refs1_rel (h j cs[j] _ (List.getElem?_eq_getElem hj) (Array.getElem?_eq_getElem (by omega))) p hp
  have h1 := refs1_rel h
  cases h with
  | agg hl h => exact many hl h
  | tup hl h => exact many hl h
  | fn hl h => exact many hl h
  | _ => exact h1
theorem refs1_unk (v : AV) : refs1 (unk1 v) = refs1 v := by cases v <;> rfl
theorem refsOf_unk (v : AV) : refsOf (unk v) = refsOf v := by
  cases v with
  | agg cs =>
    simp only [unk, refsOf, List.flatMap_map]
    congr 1
    funext x
    exact refs1_unk x
  | _ => rfl
section
variable {R : Nat → Nat → Prop} {Z : Nat → Prop}
theorem settle_fits {s : Nat} (hz : ∀ k, Z (s + 65536 * k)) (cz : List Nat) : ∀ (cs : List AV) (j : Nat) (k : List AV → Step), (∀ r, (k r).Fits R Z) → (settle s cz j cs k).Fits R Z
  | [], j, k, h => h []
  | c :: cs, j, k, h => by
    have gen : (settle s cz (j + 1) cs fun r => k (c :: r)).Fits R Z := settle_fits hz cz cs (j + 1) _ fun r => h _
    cases c with
    | nl => exact ⟨hz (j + 1), fun g => settle_fits hz cz cs (j + 1) _ fun r => h _⟩
    | _ => exact gen
theorem dataOf_fits {v : AV} (hr : ∀ p ∈ refs1 v, R p.1 p.2) {k : D → Step} (h : ∀ x, (k x).Fits R Z) : (dataOf v k).Fits R Z := by
  cases v with
  | d x => exact h x
  | nl => exact h _
  | row s g n => exact ⟨hr (s, g) (by simp [refs1]), fun c => ⟨hr (s, g) (by simp [refs1]), h _⟩⟩
  | sub s g o n => exact ⟨hr (s, g) (by simp [refs1]), fun c => ⟨hr (s, g) (by simp [refs1]), h _⟩⟩
  | _ => exact trivial
theorem dataList_fits : ∀ (vs : List AV), (∀ p ∈ vs.flatMap refs1, R p.1 p.2) → ∀ (k : List D → Step), (∀ x, (k x).Fits R Z) → (dataList vs k).Fits R Z
  | [], _, k, h => h []
  | v :: vs, hr, k, h => dataOf_fits (fun p hp => hr p (by simp [hp])) fun x => dataList_fits vs (fun p hp => hr p (by
      rw [List.flatMap_cons]; exact List.mem_append_right _ hp)) _ fun xs => h _
theorem arg0_fits {v : AV} (hr : ∀ p ∈ refs1 v, R p.1 p.2) {k : AV → List (Nat × Nat) → Step} (h : ∀ x l, (∀ p ∈ l, R p.1 p.2) → (k x l).Fits R Z) : (arg0 v k).Fits R Z := by
  cases v with
  | d x => exact h _ [] (by simp)
  | nl => exact h _ [] (by simp)
  | row s g n => exact ⟨hr (s, g) (by simp [refs1]), fun c => h _ [(s, g)] (by simpa using hr (s, g) (by simp [refs1]))⟩
  | sub s g o n => exact ⟨hr (s, g) (by simp [refs1]), fun c => h _ [(s, g)] (by simpa using hr (s, g) (by simp [refs1]))⟩
  | lp s g o =>
    refine ⟨hr (s, g) (by simp [refs1]), fun c => ?_⟩
    dsimp only
    split
    · exact h _ [(s, g)] (by simpa using hr (s, g) (by simp [refs1]))
    · exact trivial
  | fp ds => exact h _ [] (by simp)
  | _ => exact trivial
theorem argL_fits : ∀ (vs : List AV), (∀ p ∈ vs.flatMap refs1, R p.1 p.2) → ∀ (k : List AV → List (Nat × Nat) → Step), (∀ x l, (∀ p ∈ l, R p.1 p.2) → (k x l).Fits R Z) → (argL vs k).Fits R Z
  | [], _, k, h => h [] [] (by simp)
  | v :: vs, hr, k, h => arg0_fits (fun p hp => hr p (by simp [hp])) fun x l hl => argL_fits vs (fun p hp => hr p (by
      rw [List.flatMap_cons]; exact List.mem_append_right _ hp)) _ fun xs l' hl' => h _ _ fun p hp => by
      rcases List.mem_append.1 hp with hp | hp
      · exact hl p hp
      · exact hl' p hp
theorem arg1_fits {v : AV} (hr : ∀ p ∈ refsOf v, R p.1 p.2) {k : AV → List (Nat × Nat) → Step} (h : ∀ x l, (∀ p ∈ l, R p.1 p.2) → (k x l).Fits R Z) : (arg1 v k).Fits R Z := by
  cases v with
  | fn f cs => exact argL_fits cs hr _ fun x l hl => h _ l hl
  | agg cs => exact trivial
  | tup cs => exact trivial
  | _ => exact arg0_fits (v := _) (by simpa [refsOf] using hr) h
theorem argT_fits : ∀ (vs : List (Option AV)), (∀ v, some v ∈ vs → ∀ p ∈ refsOf v, R p.1 p.2) → ∀ (k : List AV → List (Nat × Nat) → Step), (∀ x l, (∀ p ∈ l, R p.1 p.2) → (k x l).Fits R Z) → (argT vs k).Fits R Z
  | [], _, k, h => h [] [] (by simp)
  | none :: vs, _, k, h => trivial
  | some v :: vs, hr, k, h => by
    have next : ∀ (x : AV) (l : List (Nat × Nat)), (∀ p ∈ l, R p.1 p.2) → (argT vs fun xs m => k (x :: xs) (l ++ m)).Fits R Z := fun x l hl =>
      argT_fits vs (fun v hv => hr v (by simp [hv])) _ fun xs l' hl' => h _ _ fun p hp => by
        rcases List.mem_append.1 hp with hp | hp
        · exact hl p hp
        · exact hl' p hp
    have hv := hr v (by simp)
    have one : (∀ p ∈ refsOf v, R p.1 p.2) → (arg1 v fun x l => argT vs fun xs m => k (x :: xs) (l ++ m)).Fits R Z := fun h1 => arg1_fits h1 next
    cases v with
    | agg cs => exact argL_fits cs hv _ fun x l hl => next _ l hl
    | tup cs => exact trivial
    | _ => exact one hv
theorem frzL_fits : ∀ (l : List (Nat × Nat)) (k : Step), (∀ p ∈ l, R p.1 p.2) → k.Fits R Z → (frzL l k).Fits R Z
  | [], k, _, h => h
  | (s, g) :: l, k, hl, h => ⟨hl (s, g) (by simp), frzL_fits l k (fun p hp => hl p (by simp [hp])) h⟩
theorem recv1_fits {s : Nat} (hz : Z s) (v : AV) {k : AV → Step} (h : ∀ x, (k x).Fits R Z) : (recv1 s v k).Fits R Z := by
  cases v with
  | ow sz es => exact ⟨hz, fun g => h _⟩
  | d x => exact h _
  | _ => exact trivial
theorem recvL_fits {s : Nat} (hz : ∀ k, Z (s + 65536 * k)) : ∀ (vs : List AV) (j : Nat) (k : List AV → Step), (∀ r, (k r).Fits R Z) → (recvL s j vs k).Fits R Z
  | [], _, _k, h => h []
  | v :: vs, j, _k, h => recv1_fits (hz (j + 1)) v fun _x => recvL_fits hz vs (j + 1) _ fun _r => h _
theorem recvC_fits {s : Nat} (hz : ∀ k, Z (s + 65536 * k)) (v : AV) {k : AV → Step} (h : ∀ x, (k x).Fits R Z) : (recvC s v k).Fits R Z := by
  have one : (recv1 s v k).Fits R Z := recv1_fits (hz 0) v h
  cases v with
  | agg cs => exact recvL_fits hz cs 0 _ fun r => h _
  | _ => exact one
theorem recvT_fits {s : Nat} (hz : ∀ k, Z (s + 65536 * k)) : ∀ (vs : List AV) (j : Nat) (k : List AV → Step), (∀ r, (k r).Fits R Z) → (recvT s j vs k).Fits R Z
  | [], j, k, h => h []
  | v :: vs, j, k, h => recvC_fits (fun k' => by have := hz (16 * (j + 1) + k'); rw [Nat.mul_add, ← Nat.add_assoc, ← Nat.mul_assoc] at this; exact this) v fun x => recvT_fits hz vs (j + 1) _ fun r => h _
theorem recv_fits {s : Nat} (hz : ∀ k, Z (s + 65536 * k)) (v : AV) {k : AV → Step} (h : ∀ x, (k x).Fits R Z) : (recv s v k).Fits R Z := by
  have one : (recvC s v k).Fits R Z := recvC_fits hz v h
  cases v with
  | tup cs => exact recvT_fits hz cs 0 _ fun r => h _
  | _ => exact one
theorem boxF_fits {t : TI} {s : Nat} (hz : ∀ k, Z (s + 65536 * k)) (v : AV) : (boxF t s v).Fits R Z := by
  unfold boxF
  cases (cellsOf v).all isOne
  · trivial
  · exact settle_fits hz _ _ _ _ fun r => ⟨hz 0, fun g => trivial⟩
theorem ldA_fits {t : TI} {cs : List AV} : (ldA t cs).Fits R Z := by
  unfold ldA
  cases t.known
  · trivial
  · cases t.agg
    · cases cs <;> trivial
    · simp only [Bool.not_true, cond_false, cond_true]
      cases Nat.ble t.size cs.length <;> trivial
theorem ldD_fits {t : TI} {cs : List D} : (ldD t cs).Fits R Z := by rw [ldD_eq]; exact ldA_fits
theorem retO_fits {x : Option AV} : (retO x).Fits R Z := by cases x <;> trivial
theorem buildEs_fits (sz n : Nat) : ∀ (parts : List (Nat × Option AV)) (i : Nat) (k : List (List D) → Step), (∀ p ∈ parts, ∀ v, p.2 = some v → ∀ q ∈ (cellsOf v).flatMap refs1, R q.1 q.2) → (∀ es, (k es).Fits R Z) → (buildEs sz n i parts k).Fits R Z
  | [], i, k, _, h => by
    simp only [buildEs]
    cases Nat.beq i n
    · trivial
    · exact h []
  | (j, none) :: r, i, k, _, h => trivial
  | (j, some v) :: r, i, k, hr, h => by
    simp only [buildEs]
    cases (Nat.beq i j && Nat.beq (cellsOf v).length sz && (cellsOf v).all isOne)
    · trivial
    · exact dataList_fits _ (hr (j, some v) (by simp) v rfl) _ fun ds => buildEs_fits sz n r (i + 1) _ (fun p hp => hr p (by simp [hp])) fun es => h _
end
end Go.Proofs.YtljdbikodogeiaaGreatDoor
