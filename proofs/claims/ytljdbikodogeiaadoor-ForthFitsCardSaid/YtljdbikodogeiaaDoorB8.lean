/-
  What came in, and events whose texts and files differ at one place (plain law of layer 21).
-/
import Derived.Test.YtljdbikodogeiaaDoorBA
namespace Go.Proofs.YtljdbikodogeiaaDoor
open Go.RowKit
def api_Profile.Q (x : api_Profile) : Prop := (x.Name.size ≤ maxLen) ∧ (IntKind.i64.min ≤ x.Edit ∧ x.Edit ≤ IntKind.i64.max) ∧ (IntKind.i64.min ≤ x.Within ∧ x.Within ≤ IntKind.i64.max) ∧ (IntKind.i64.min ≤ x.Delete ∧ x.Delete ≤ IntKind.i64.max) ∧ True ∧ (IntKind.i64.min ≤ x.Thread ∧ x.Thread ≤ IntKind.i64.max) ∧ True ∧ True ∧ (IntKind.i64.min ≤ x.Size ∧ x.Size ≤ IntKind.i64.max) ∧ (IntKind.i64.min ≤ x.Parts ∧ x.Parts ≤ IntKind.i64.max) ∧ (IntKind.i64.min ≤ x.Files ∧ x.Files ≤ IntKind.i64.max) ∧ (IntKind.i64.min ≤ x.Bytes ∧ x.Bytes ≤ IntKind.i64.max) ∧ (x.Types.length ≤ maxLen ∧ ∀ u1 ∈ x.Types, (u1.size ≤ maxLen)) ∧ (IntKind.i64.min ≤ x.Join ∧ x.Join ≤ IntKind.i64.max) ∧ (IntKind.i64.min ≤ x.History ∧ x.History ≤ IntKind.i64.max) ∧ (IntKind.i64.min ≤ x.Remove ∧ x.Remove ≤ IntKind.i64.max) ∧ (IntKind.i64.min ≤ x.Level ∧ x.Level ≤ IntKind.i64.max) ∧ True ∧ (IntKind.i64.min ≤ x.Rate ∧ x.Rate ≤ IntKind.i64.max) ∧ (IntKind.i64.min ≤ x.Down ∧ x.Down ≤ IntKind.i64.max) ∧ (IntKind.i64.min ≤ x.Window ∧ x.Window ≤ IntKind.i64.max) ∧ (IntKind.i64.min ≤ x.Keep ∧ x.Keep ≤ IntKind.i64.max)
def api_Event.Q (x : api_Event) : Prop := (IntKind.i64.min ≤ x.Author ∧ x.Author ≤ IntKind.i64.max) ∧ (IntKind.i64.min ≤ x.Seq ∧ x.Seq ≤ IntKind.i64.max) ∧ (x.Causes.length ≤ maxLen ∧ ∀ u2 ∈ x.Causes, (IntKind.i64.min ≤ u2 ∧ u2 ≤ IntKind.i64.max)) ∧ (IntKind.i64.min ≤ x.Kind ∧ x.Kind ≤ IntKind.i64.max) ∧ (IntKind.i64.min ≤ x.Group ∧ x.Group ≤ IntKind.i64.max) ∧ (IntKind.i64.min ≤ x.Target ∧ x.Target ≤ IntKind.i64.max) ∧ (IntKind.i64.min ≤ x.Quote ∧ x.Quote ≤ IntKind.i64.max) ∧ (IntKind.i64.min ≤ x.Who ∧ x.Who ≤ IntKind.i64.max) ∧ (IntKind.i64.min ≤ x.N ∧ x.N ≤ IntKind.i64.max) ∧ (x.Text.size ≤ maxLen) ∧ (x.Files.length ≤ maxLen ∧ ∀ u3 ∈ x.Files, (IntKind.i64.min ≤ u3 ∧ u3 ≤ IntKind.i64.max)) ∧ (IntKind.i64.min ≤ x.Step ∧ x.Step ≤ IntKind.i64.max)
theorem ev_ints {l : List api_Event} (h : ∀ x ∈ l, api_Event.Q x) : ∀ x ∈ l, i64 x.Who ∧ i64 x.N ∧ ∀ f ∈ x.Files, i64 f := fun x hx => by
  obtain ⟨_, _, _, _, _, _, _, h8, h9, _, h11, _⟩ := h x hx
  exact ⟨h8, h9, fun f hf => h11.2 f hf⟩
theorem prof_ok {p : api_Profile} (h : api_Profile.Q p) : ProfOk p := by
  obtain ⟨h1, _, _, _, _, _, _, _, _, _, _, _, h13, _⟩ := h
  exact ⟨h1, h13.1, h13.2⟩
/-- events that agree but for text and files at one place -/
structure Ag (a b : List api_Event) (k : Nat) : Prop where
  len : b.length = a.length
  eq : ∀ j : Nat, j ≠ k → b.getD j e0 = a.getD j e0
  kind : ∀ j : Nat, (b.getD j e0).Kind = (a.getD j e0).Kind
  target : ∀ j : Nat, (b.getD j e0).Target = (a.getD j e0).Target
theorem ne_ev (p : api_Profile) (b : List api_Event) (bad : List Int) : (netOf p b bad).events = b := rfl
theorem ne_p (p : api_Profile) (b : List api_Event) (bad : List Int) : (netOf p b bad).p = p := rfl
theorem ne_bad (p : api_Profile) (b : List api_Event) (bad : List Int) : (netOf p b bad).bad = bad := rfl
theorem ne_same (p : api_Profile) (a b : List api_Event) (bad : List Int) (c : Nat) : sameB (netOf p b bad) c = sameB (netOf p a bad) c := rfl
theorem ne_post (p : api_Profile) (a b : List api_Event) (bad : List Int) (id : Int) (s : ByteArray) (on : Int) : postS (netOf p b bad) id s on = postS (netOf p a bad) id s on := rfl
theorem ne_who (p : api_Profile) (a b : List api_Event) (bad : List Int) (x : api_Event) (s : ByteArray) : whoS (netOf p b bad) x s = whoS (netOf p a bad) x s := rfl
section
variable {p : api_Profile} {bad : List Int} {a b : List api_Event} {k : Nat} (h : Ag a b k)
include h
theorem Ag.msg (id than : Int) : msgB b id than = msgB a id than := by
  unfold msgB
  rw [h.len, h.kind]
theorem Ag.vmsg (id : Int) : vmsgB b id = vmsgB a id := by
  unfold vmsgB
  rw [h.len, h.kind]
theorem Ag.par (id : Int) : parS b id = parS a id := by
  unfold parS
  rw [h.target, h.vmsg]
theorem Ag.rootF_eq : ∀ (q : Nat) (id : Int), rootF b q id = rootF a q id
  | 0, _ => rfl
  | q + 1, id => by
    rw [rootF, rootF, h.par, Ag.rootF_eq q]
theorem Ag.root (id : Int) : rootS b id = rootS a id := by
  unfold rootS
  rw [h.vmsg, h.rootF_eq]
theorem Ag.place (id : Int) : placeS (netOf p b bad) id = placeS (netOf p a bad) id := by
  unfold placeS
  rw [ne_ev, ne_ev, ne_p, ne_p, h.root]
theorem Ag.line {id : Int} (hk : id.toNat ≠ k) : lineOf (netOf p b bad) id = lineOf (netOf p a bad) id := by
  unfold lineOf
  rw [ne_ev, ne_ev, h.eq _ hk]
theorem Ag.re (x : api_Event) (id : Int) (hk : msgB a x.Target id = true → x.Target.toNat ≠ k) : reS (netOf p b bad) x id = reS (netOf p a bad) x id := by
  unfold reS
  rw [ne_ev, ne_ev, h.msg, ne_same p a b]
  cases hm : msgB a x.Target id
  · simp only [Bool.false_and, cond_false]
  · rw [h.line (hk hm)]
theorem Ag.qu (x : api_Event) (id : Int) (s : ByteArray) (hk : msgB a x.Quote id = true → x.Quote.toNat ≠ k) : quS (netOf p b bad) x id s = quS (netOf p a bad) x id s := by
  unfold quS
  rw [ne_ev, ne_ev, h.msg, ne_same p a b]
  cases hm : msgB a x.Quote id
  · simp only [Bool.false_and, cond_false]
  · rw [h.line (hk hm)]
theorem Ag.words {id : Int} (hid : id.toNat ≠ k) (ht : msgB a (a.getD id.toNat e0).Target id = true → (a.getD id.toNat e0).Target.toNat ≠ k) (hq : msgB a (a.getD id.toNat e0).Quote id = true → (a.getD id.toNat e0).Quote.toNat ≠ k) (text : ByteArray) (files : List Int) :
    wordsS (netOf p b bad) id text files = wordsS (netOf p a bad) id text files := by
  unfold wordsS headS
  rw [ne_ev, ne_ev, ne_p, ne_p, ne_bad, ne_bad, h.eq _ hid, h.re _ _ ht, h.qu _ _ _ hq, ne_who p a b]
theorem Ag.first {id : Int} (hid : id.toNat ≠ k) (ht : msgB a (a.getD id.toNat e0).Target id = true → (a.getD id.toNat e0).Target.toNat ≠ k) (hq : msgB a (a.getD id.toNat e0).Quote id = true → (a.getD id.toNat e0).Quote.toNat ≠ k) : firstS' (netOf p b bad) id = firstS' (netOf p a bad) id := by
  have hw := h.words (p := p) (bad := bad) hid ht hq (a.getD id.toNat e0).Text (a.getD id.toNat e0).Files
  have hpl := h.place (p := p) (bad := bad) (a.getD id.toNat e0).Target
  unfold firstS'
  simp only [ne_ev, ne_p, ne_bad, ne_post p a b, ne_same p a b, h.eq _ hid, h.msg, hw, hpl]
end
end Go.Proofs.YtljdbikodogeiaaDoor
