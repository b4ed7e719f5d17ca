/-
  View's laws in plain words: acts of different authors may change places.
-/
import Derived.Test.YtpikahfgidgdbaaP8
namespace Go.Proofs.Ytpikahfgidgdbaa
open Go.RowKit
/-- what an act does, by the message's group and author -/
inductive VOp where
  | skip
  | edit (tx : ByteArray) (fl : List Int)
  | del
  | put (p : Pr)
  | rem (p : Pr)
def opOf (gr au : Int) (e : api_Event) : VOp :=
  bif e.Group != gr then .skip
  else bif (e.Kind == 1) && (e.Author == au) then .edit e.Text e.Files
  else bif e.Kind == 2 then .del
  else bif e.Kind == 3 then .put (e.Author, e.N)
  else bif e.Kind == 4 then .rem (e.Author, e.N)
  else .skip
def opDo (s : VSt) : VOp → VSt
  | .skip => s
  | .edit tx fl => bif s.gone then s else { s with tx := tx, fl := fl, ed := RowKit.wrap64 (s.ed + 1) }
  | .del => bif s.gone then s else { s with tx := ⟨#[]⟩, fl := [], ed := 0, gone := true, re := [] }
  | .put p => bif s.gone then s else { s with re := putP s.re p }
  | .rem p => bif s.gone then s else { s with re := s.re.erase p }
theorem vAct_op (s : VSt) (e : api_Event) : vAct s e = opDo s (opOf s.gr s.au e) := by
  unfold vAct opOf
  cases e.Group != s.gr <;> cases hg : s.gone <;> cases (e.Kind == 1) && (e.Author == s.au) <;> cases e.Kind == 2 <;> cases e.Kind == 3 <;> cases e.Kind == 4 <;> simp [opDo, hg]
/-- the same, but for the order of the reactions -/
def SEq (s t : VSt) : Prop := ∃ re, t = { s with re := re } ∧ s.re.Perm re
theorem SEq.refl (s : VSt) : SEq s s := ⟨s.re, rfl, .refl _⟩
theorem SEq.of_eq {s t : VSt} (h : s = t) : SEq s t := h ▸ SEq.refl s
theorem SEq.trans {a b c : VSt} (h : SEq a b) (k : SEq b c) : SEq a c := by
  obtain ⟨r1, rfl, p1⟩ := h
  obtain ⟨r2, rfl, p2⟩ := k
  exact ⟨r2, rfl, p1.trans p2⟩
theorem putP_perm {a b : List Pr} (h : a.Perm b) (p : Pr) : (putP a p).Perm (putP b p) := by
  unfold putP
  by_cases hp : p ∈ a
  · rw [if_pos hp, if_pos (h.mem_iff.1 hp)]; exact h
  · rw [if_neg hp, if_neg (fun q => hp (h.mem_iff.2 q))]; exact h.append_right _
theorem SEq.op {s t : VSt} (h : SEq s t) (o : VOp) : SEq (opDo s o) (opDo t o) := by
  obtain ⟨re, rfl, p⟩ := h
  cases o with
  | skip => exact ⟨re, rfl, p⟩
  | edit tx fl =>
    unfold opDo
    cases hg : s.gone
    · simp only [cond_false]; exact ⟨re, rfl, p⟩
    · simp only [cond_true]; exact ⟨re, by rw [hg], p⟩
  | del =>
    unfold opDo
    cases hg : s.gone
    · simp only [cond_false]; exact SEq.refl _
    · simp only [cond_true]; exact ⟨re, by rw [hg], p⟩
  | put x =>
    unfold opDo
    cases hg : s.gone
    · simp only [cond_false]; exact ⟨putP re x, rfl, putP_perm p x⟩
    · simp only [cond_true]; exact ⟨re, by rw [hg], p⟩
  | rem x =>
    unfold opDo
    cases hg : s.gone
    · simp only [cond_false]; exact ⟨re.erase x, rfl, p.erase x⟩
    · simp only [cond_true]; exact ⟨re, by rw [hg], p⟩
theorem SEq.act {s t : VSt} (h : SEq s t) (e : api_Event) : SEq (vAct s e) (vAct t e) := by
  rw [vAct_op, vAct_op]
  have h1 : t.gr = s.gr := by obtain ⟨re, rfl, _⟩ := h; rfl
  have h2 : t.au = s.au := by obtain ⟨re, rfl, _⟩ := h; rfl
  rw [h1, h2]
  exact h.op _
def VOp.okWith : VOp → VOp → Prop
  | .edit _ _, .edit _ _ => False
  | .put p, .rem q => p ≠ q
  | .rem p, .put q => p ≠ q
  | _, _ => True
theorem putP_comm {re : List Pr} (hn : re.Nodup) (p q : Pr) : (putP (putP re p) q).Perm (putP (putP re q) p) :=
  (List.perm_ext_iff_of_nodup (nodup_putP (nodup_putP hn)) (nodup_putP (nodup_putP hn))).2 fun y => by
    rw [mem_putP, mem_putP, mem_putP, mem_putP]
    constructor
    · rintro ((h | h) | h)
      · exact Or.inl (Or.inl h)
      · exact Or.inr h
      · exact Or.inl (Or.inr h)
    · rintro ((h | h) | h)
      · exact Or.inl (Or.inl h)
      · exact Or.inr h
      · exact Or.inl (Or.inr h)
theorem putP_erase {re : List Pr} (hn : re.Nodup) {p q : Pr} (hne : p ≠ q) : ((putP re p).erase q).Perm (putP (re.erase q) p) :=
  (List.perm_ext_iff_of_nodup ((nodup_putP hn).erase q) (nodup_putP (hn.erase q))).2 fun y => by
    rw [(nodup_putP hn).mem_erase_iff, mem_putP, mem_putP, hn.mem_erase_iff]
    constructor
    · rintro ⟨h1, h2 | h2⟩
      · exact Or.inl ⟨h1, h2⟩
      · exact Or.inr h2
    · rintro (⟨h1, h2⟩ | h2)
      · exact ⟨h1, Or.inl h2⟩
      · exact ⟨fun e => hne (h2.symm.trans e), Or.inr h2⟩
theorem op_comm {s : VSt} (hn : s.re.Nodup) {a b : VOp} (h : a.okWith b) : SEq (opDo (opDo s a) b) (opDo (opDo s b) a) := by
  cases hg : s.gone
  · cases a with
    | skip => exact SEq.refl _
    | edit t1 f1 =>
      cases b with
      | skip => exact SEq.refl _
      | edit t2 f2 => exact h.elim
      | del => simp only [opDo, hg, cond_false, cond_true]; exact SEq.refl _
      | put q => simp only [opDo, hg, cond_false]; exact SEq.refl _
      | rem q => simp only [opDo, hg, cond_false]; exact SEq.refl _
    | del =>
      cases b with
      | skip => exact SEq.refl _
      | edit t2 f2 => simp only [opDo, hg, cond_false, cond_true]; exact SEq.refl _
      | del => exact SEq.refl _
      | put q => simp only [opDo, hg, cond_false, cond_true]; exact SEq.refl _
      | rem q => simp only [opDo, hg, cond_false, cond_true]; exact SEq.refl _
    | put p =>
      cases b with
      | skip => exact SEq.refl _
      | edit t2 f2 => simp only [opDo, hg, cond_false]; exact SEq.refl _
      | del => simp only [opDo, hg, cond_false, cond_true]; exact SEq.refl _
      | put q => simp only [opDo, hg, cond_false]; exact ⟨_, rfl, putP_comm hn p q⟩
      | rem q => simp only [opDo, hg, cond_false]; exact ⟨_, rfl, putP_erase hn h⟩
    | rem p =>
      cases b with
      | skip => exact SEq.refl _
      | edit t2 f2 => simp only [opDo, hg, cond_false]; exact SEq.refl _
      | del => simp only [opDo, hg, cond_false, cond_true]; exact SEq.refl _
      | put q => simp only [opDo, hg, cond_false]; exact ⟨_, rfl, (putP_erase hn (Ne.symm h)).symm⟩
      | rem q => simp only [opDo, hg, cond_false]; exact ⟨_, rfl, by rw [List.erase_comm]⟩
  · have hs : ∀ o, opDo s o = s := fun o => by cases o <;> simp [opDo, hg]
    simp only [hs]
    exact SEq.refl _
theorem op_ok (gr au : Int) {e f : api_Event} (h : e.Author ≠ f.Author) : (opOf gr au e).okWith (opOf gr au f) := by
  have hne : ∀ a b : Int, ((e.Author, a) : Pr) ≠ (f.Author, b) := fun a b q => h (congrArg Prod.fst q)
  unfold opOf
  cases e.Group != gr
  · cases h1 : (e.Kind == 1) && (e.Author == au)
    · cases e.Kind == 2 <;> cases e.Kind == 3 <;> cases e.Kind == 4 <;> cases f.Group != gr <;> cases (f.Kind == 1) && (f.Author == au) <;> cases f.Kind == 2 <;> cases f.Kind == 3 <;> cases f.Kind == 4 <;> first | exact trivial | exact hne _ _
    · cases f.Group != gr
      · cases h2 : (f.Kind == 1) && (f.Author == au)
        · cases f.Kind == 2 <;> cases f.Kind == 3 <;> cases f.Kind == 4 <;> exact trivial
        · rw [Bool.and_eq_true] at h1 h2
          exact absurd ((eq_of_beq h1.2).trans (eq_of_beq h2.2).symm) h
      · exact trivial
  · exact trivial
theorem act_comm {s : VSt} (hn : s.re.Nodup) {e f : api_Event} (h : e.Author ≠ f.Author) : SEq (vAct (vAct s e) f) (vAct (vAct s f) e) := by
  have h1 := vAct_const s e
  have h2 := vAct_const s f
  rw [vAct_op (vAct s e) f, vAct_op (vAct s f) e, h1.1, h1.2.1, h2.1, h2.2.1, vAct_op s e, vAct_op s f]
  exact op_comm hn (op_ok s.gr s.au h)
theorem SEq.out {s t : VSt} (h : SEq s t) (hn : s.re.Nodup) : vOut s = vOut t := by
  obtain ⟨re, rfl, p⟩ := h
  unfold vOut
  have : sortP s.re = sortP re := sort_unique ((sortP_perm s.re).trans p) (sortP_lt hn)
  rw [this]
/-- the acts on a message, one after the other -/
def actF (s : VSt) (r : List api_Event) : VSt := r.foldl vAct s
theorem actF_nodup {s : VSt} (h : s.re.Nodup) : ∀ r : List api_Event, (actF s r).re.Nodup := by
  intro r
  induction r generalizing s with
  | nil => exact h
  | cons e r ih => exact ih (vAct_nodup h)
theorem actF_seq {s t : VSt} (h : SEq s t) : ∀ r : List api_Event, SEq (actF s r) (actF t r) := by
  intro r
  induction r generalizing s t with
  | nil => exact h
  | cons e r ih => exact ih (h.act e)
theorem actL_filter (r : List api_Event) : ∀ s : VSt, actL s r = actF s (r.filter fun e => (e.Kind != 0) && (s.id == e.Target)) := by
  induction r with
  | nil => exact fun s => rfl
  | cons e r ih =>
    intro s
    have h1 : actL s (e :: r) = actL (bif (e.Kind != 0) && (s.id == e.Target) then vAct s e else s) r := rfl
    rw [h1, List.filter_cons]
    cases hc : (e.Kind != 0) && (s.id == e.Target)
    · simp only [cond_false, Bool.false_eq_true, if_false]
      exact ih s
    · simp only [cond_true, if_true]
      rw [ih, vAct_id]
      rfl
end Go.Proofs.Ytpikahfgidgdbaa
