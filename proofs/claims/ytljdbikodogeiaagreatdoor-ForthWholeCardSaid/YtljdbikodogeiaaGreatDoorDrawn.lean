/-
  Regions that draw their order, taken in batches: what only reads under a condition S, or is not wanted, is taken first, a whole list at a time; then the one operation that may come up. Over any program.
-/
import Derived.OrdersHeld
import Derived.Deep.RegionHeld3
import Derived.WalkKit
namespace Go.Proofs.YtljdbikodogeiaaGreatDoor
section
variable {P : Program} {ops : Array Oper} {Q : Exit → Act → World → Prop} {md : Region.Mode} {S : World → Prop}
/-- operations by their numbers -/
def pick (ops : Array Oper) (is : List Nat) : List Oper := is.filterMap (ops[·]?)
theorem pick_lit (l : List Oper) (is : List Nat) : pick l.toArray is = is.filterMap (l[·]?) := by
  unfold pick
  congr 1
  funext x
  simp
/-- a list of operations yields its values one after the other, in every world that meets S -/
def Takes (P : Program) (ops : Array Oper) (S : World → Prop) : List Oper → Act → Act → Prop
  | [], a, b => b = a
  | o :: r, a, b => ∃ v, YieldsIf P ops S o v a ∧ Takes P ops S r (a.put o.dst v) b
theorem Takes.done {a : Act} : Takes P ops S [] a a := rfl
theorem Takes.want {o : Oper} {r : List Oper} {a b : Act} (v : Value) (hw : Region.wanted o (yielded ops a.tmps) = true) (hv : ∀ w, S w → (execOp a.eval o).run P w = .ok (.value v) w) (h : Takes P ops S r (a.put o.dst v) b) : Takes P ops S (o :: r) a b := ⟨v, Or.inl ⟨hw, hv⟩, h⟩
theorem Takes.skip {o : Oper} {r : List Oper} {a b : Act} (hw : Region.wanted o (yielded ops a.tmps) = false) (h : Takes P ops S r (a.put o.dst undef) b) : Takes P ops S (o :: r) a b := ⟨undef, Or.inr ⟨hw, rfl⟩, h⟩
def takeable (md : Region.Mode) (ops : Array Oper) : List Nat → Array Bool → Bool
  | [], _ => true
  | i :: r, l => decide (i < ops.size) && Region.free md ops l i && (Region.ready md ops l).contains i && takeable md ops r (l.setIfInBounds i true)
def listAll : List Nat → Array Bool → Array Bool
  | [], l => l
  | i :: r, l => listAll r (l.setIfInBounds i true)
theorem wpAnyH_takes (hs : Region.noSelect ops = true) (hQ : ∀ d v c a w, Q (.panic c) (Act.put a d v) w → Q (.panic c) a w) : ∀ (is : List Nat) (fuel n : Nat) (listed : Array Bool) (a b : Act) (w : World), n = fuel + is.length →
    takeable md ops is listed = true → Takes P ops S (pick ops is) a b → S w → wpAnyH P md ops Q S fuel (listAll is listed) b w → wpAnyH P md ops Q S n listed a w
  | [], fuel, n, listed, a, b, w, hn, _, ht, _, h => by
    subst hn
    have : b = a := ht
    subst this
    exact h
  | i :: r, fuel, n, listed, a, b, w, hn, hk, ht, hS, h => by
    simp only [takeable, Bool.and_eq_true, decide_eq_true_eq] at hk
    obtain ⟨⟨⟨h1, h2⟩, h3⟩, h4⟩ := hk
    have e : ops[i]? = some ops[i] := Array.getElem?_eq_getElem h1
    have hp : pick ops (i :: r) = ops[i] :: pick ops r := by simp [pick, e]
    rw [hp] at ht
    obtain ⟨v, hy, ht⟩ := ht
    obtain rfl : n = (fuel + r.length) + 1 := by rw [hn, List.length_cons]; omega
    exact wpAnyH_take e hs h2 h3 (fun c a w => hQ _ _ c a w) hy hS (wpAnyH_takes hs hQ r fuel _ _ _ b w rfl h4 ht hS h)
/-- the one operation that may come up -/
def AtOps (P : Program) (ops : Array Oper) (Q : Exit → Act → World → Prop) (K : Act → World → Prop) (a : Act) (w : World) : List Oper → Prop
  | [o] => if Region.wanted o (yielded ops a.tmps) = true then Oper.wp P o a w K Q else K (a.put o.dst undef) w
  | _ => False
theorem wpAnyH_one (i : Nat) {fuel n : Nat} {listed : Array Bool} {a : Act} {w : World} (hr : Region.ready md ops listed = [i]) (hn : n = fuel + 1)
    (h : ∀ K : Act → World → Prop, Shut (∀ a w, S w → (S w → wpAnyH P md ops Q S fuel (listed.setIfInBounds i true) a w) → K a w) → AtOps P ops Q K a w (pick ops [i])) : wpAnyH P md ops Q S n listed a w := by
  subst hn
  have hi : i ∈ Region.ready md ops listed := by rw [hr]; simp
  obtain ⟨_, o, ho, _⟩ := mem_ready.1 hi
  refine wpAnyH_ready hr (by simp) (AllReadyH.cons ho (fun K hK => ?_) AllReadyH.nil)
  have := h K hK
  rw [show pick ops [i] = [o] by simp [pick, ho]] at this
  exact this
/-- the first of two operations that may come up -/
theorem wpAnyH_two (i j : Nat) {fuel n : Nat} {listed : Array Bool} {a : Act} {w : World} (hr : Region.ready md ops listed = [i, j]) (hn : n = fuel + 1)
    (h : ∀ K : Act → World → Prop, Shut (∀ a w, S w → (S w → wpAnyH P md ops Q S fuel (listed.setIfInBounds i true) a w) → K a w) → AtOps P ops Q K a w (pick ops [i]))
    (h2 : ∀ K : Act → World → Prop, Shut (∀ a w, S w → (S w → wpAnyH P md ops Q S fuel (listed.setIfInBounds j true) a w) → K a w) → AtOps P ops Q K a w (pick ops [j])) : wpAnyH P md ops Q S n listed a w := by
  subst hn
  have hi : i ∈ Region.ready md ops listed := by rw [hr]; simp
  have hj : j ∈ Region.ready md ops listed := by rw [hr]; simp
  obtain ⟨_, o, ho, _⟩ := mem_ready.1 hi
  obtain ⟨_, o2, ho2, _⟩ := mem_ready.1 hj
  refine wpAnyH_ready hr (by simp) (AllReadyH.cons ho (fun K hK => ?_) (AllReadyH.cons ho2 (fun K hK => ?_) AllReadyH.nil))
  · have := h K hK
    rw [show pick ops [i] = [o] by simp [pick, ho]] at this
    exact this
  · have := h2 K hK
    rw [show pick ops [j] = [o2] by simp [pick, ho2]] at this
    exact this
end
end Go.Proofs.YtljdbikodogeiaaGreatDoor
