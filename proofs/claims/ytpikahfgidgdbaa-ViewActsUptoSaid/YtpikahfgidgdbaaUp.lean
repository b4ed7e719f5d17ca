/-
  What the bound of an '..UptoSaid' gives: how many events there are.
-/
import Derived.Test.YtpikahfgidgdbaaRows
import Derived.Test.YtpikahfgidgdbaaEvT
import Derived.Deep.Slices
namespace Go.Proofs.Ytpikahfgidgdbaa
open Go.ChangeShapes Go.WideShapes Go.ChangeAt Go.RowKit Go.Deep
theorem up_one {H : Type} (d : DataW H) : 1 ≤ Rows.uptoBulk d := by
  cases d with
  | lit l => cases l <;> simp [Rows.uptoBulk]
  | nil => simp [Rows.uptoBulk]
  | ptr d => simp [Rows.uptoBulk]
  | slice elems spare => simp [Rows.uptoBulk]
  | agg parts => simp [Rows.uptoBulk]
  | iface t d => simp [Rows.uptoBulk]
  | map entries => simp [Rows.uptoBulk]
  | held h => simp [Rows.uptoBulk]
theorem up_all {H : Type} (k : Nat) (l : List (DataW H)) (h : ∀ d ∈ l, k ≤ Rows.uptoBulk d) : k * l.length ≤ Rows.uptoBulkAll l := by
  induction l with
  | nil => simp
  | cons x r ih =>
    have h1 := h x (.head _)
    have h2 := ih fun d hd => h d (.tail _ hd)
    simp only [Rows.uptoBulkAll, List.length_cons, Nat.mul_add, Nat.mul_one]
    omega
theorem up_part {H : Type} {d : DataW H} {l : List (DataW H)} (h : d ∈ l) : Rows.uptoBulk d ≤ Rows.uptoBulkAll l := by
  induction l with
  | nil => cases h
  | cons x r ih =>
    simp only [Rows.uptoBulkAll]
    cases List.mem_cons.1 h with
    | inl e => subst e; omega
    | inr e => have := ih e; omega
theorem relD_len {S : Nat → Prop} {W : World} {es : List (List D)} {A : Option Addr} {n c : Nat} (h : RelD S W (.fz es) (.slice A n c)) : es.length = n := by
  cases h with
  | fz0 => rfl
  | fz => rfl
section
variable {H : Type} {enc : TypeId × Value → H} {P : Program} {W : World}
theorem up_structs {t e : TypeId} {fs : Array Field} (ht : P.underlying t = some (.slice e)) (he : P.underlying e = some (.struct fs)) (h0 : 0 < fs.size) {A : Option Addr} {n c : Nat} {d : DataW H} {p : List MemPlace} (h : DataW.Trod enc P W 0 (fun _ => true) true t (.slice A n c) d p) (hb : Rows.uptoBulk d ≤ 1048576) : n + 1 ≤ 1000000 := by
  obtain ⟨fuel, hf⟩ := h
  rcases open_slice ht hf with ⟨hc, _⟩ | ⟨a, len, cap, m, nn, Dt, Pl, hc, _, hl, hm, hmm, hx, hi⟩
  · injection hc with hc
    injection hc with _ hc
    omega
  · injection hc with hc
    injection hc with _ hc _
    subst hc
    injection hx with hx _
    subst hx
    have hnm : n ≤ m := by rw [hmm]; split <;> omega
    have h2 : ∀ x ∈ (List.range n).map Dt, 2 ≤ Rows.uptoBulk x := fun x hx => by
      obtain ⟨i, hi', rfl⟩ := List.mem_map.1 hx
      obtain ⟨cs', _, ht'⟩ := hi i (Nat.lt_of_lt_of_le (List.mem_range.1 hi') hnm)
      obtain ⟨xs, n', _, hxe, _, hlen, _⟩ := DataW.trod_struct he ht'
      injection hxe with hxe _
      rw [hxe]
      have h3 := up_all 1 (xs.map (·.1)) fun d _ => up_one d
      rw [List.length_map, hlen] at h3
      simp only [Rows.uptoBulk]
      omega
    have h4 := up_all 2 _ h2
    rw [List.length_map, List.length_range] at h4
    simp only [Rows.uptoBulk] at hb
    omega
end
end Go.Proofs.Ytpikahfgidgdbaa
