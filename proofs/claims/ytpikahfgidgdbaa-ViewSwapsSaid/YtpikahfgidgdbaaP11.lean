/-
  View's laws in plain words: what becomes of a message, when two events have changed places.
-/
import Derived.Test.YtpikahfgidgdbaaP10
namespace Go.Proofs.Ytpikahfgidgdbaa
open Go.RowKit
def e0 : api_Event := api_Event.mk 0 0 [] 0 0 0 0 0 0 ⟨#[]⟩ [] 0
def oneS (l : List api_Event) (j : Nat) : VSt := actL (vPost l j (l.getD j e0)) (l.drop (j + 1))
theorem viewS_ones (l : List api_Event) : viewS l = (posts l l.length).map fun j => vOut (oneS l j) := viewS_one l
theorem oneS_nodup (l : List api_Event) (j : Nat) : (oneS l j).re.Nodup := by
  unfold oneS
  rw [actL_filter]
  exact actF_nodup List.nodup_nil _
theorem vOut_ren (a b c : Int) (s : VSt) : vOut (renS a b c s) = { vOut s with Id := a, Parent := b, Quote := c } := rfl
theorem actF_app (s : VSt) (r t : List api_Event) : actF s (r ++ t) = actF (actF s r) t := by unfold actF; rw [List.foldl_append]
theorem act_two {s : VSt} (hn : s.re.Nodup) {x y : api_Event} (h : x.Author ≠ y.Author) (P : api_Event → Bool) (r : List api_Event) : SEq (actF s ([x, y].filter P ++ r)) (actF s ([y, x].filter P ++ r)) := by
  rw [actF_app, actF_app]
  refine actF_seq ?_ r
  simp only [List.filter_cons, List.filter_nil]
  cases P x
  · exact SEq.refl _
  · cases P y
    · exact SEq.refl _
    · exact act_comm hn h
section
variable {A B : List api_Event} {x y : api_Event}
theorem acts_sw (hx : x.Target ≠ ((A.length : Nat) : Int) + 1) (hy : y.Target ≠ ((A.length : Nat) : Int)) (ha : x.Author ≠ y.Author) {s : VSt} (hn : s.re.Nodup) (j : Nat) :
    SEq (actF s (((A ++ x :: y :: B).drop (j + 1)).filter fun e => (e.Kind != 0) && ((j : Int) == e.Target))) (actF s (((A ++ y :: x :: B).drop (swN A.length j + 1)).filter fun e => (e.Kind != 0) && ((j : Int) == e.Target))) := by
  unfold swN
  by_cases h1 : j = A.length
  · subst h1
    rw [if_pos rfl]
    have e1 : (A ++ x :: y :: B).drop (A.length + 1) = y :: B := by rw [List.drop_append, List.drop_of_length_le (by omega), show A.length + 1 - A.length = 1 by omega]; rfl
    have e2 : (A ++ y :: x :: B).drop (A.length + 1 + 1) = B := by rw [List.drop_append, List.drop_of_length_le (by omega), show A.length + 1 + 1 - A.length = 2 by omega]; rfl
    have hb : (((A.length : Nat) : Int) == y.Target) = false := beq_false_of_ne (Ne.symm hy)
    rw [e1, e2, List.filter_cons, hb, Bool.and_false]
    exact SEq.refl _
  · rw [if_neg h1]
    by_cases h2 : j = A.length + 1
    · subst h2
      rw [if_pos rfl]
      have e1 : (A ++ x :: y :: B).drop (A.length + 1 + 1) = B := by rw [List.drop_append, List.drop_of_length_le (by omega), show A.length + 1 + 1 - A.length = 2 by omega]; rfl
      have e2 : (A ++ y :: x :: B).drop (A.length + 1) = x :: B := by rw [List.drop_append, List.drop_of_length_le (by omega), show A.length + 1 - A.length = 1 by omega]; rfl
      have hb : (((A.length + 1 : Nat) : Int) == x.Target) = false := beq_false_of_ne (fun e => hx (by omega))
      rw [e1, e2, List.filter_cons, hb, Bool.and_false]
      exact SEq.refl _
    · rw [if_neg h2]
      by_cases h3 : j < A.length
      · have e1 : (A ++ x :: y :: B).drop (j + 1) = A.drop (j + 1) ++ ([x, y] ++ B) := by rw [List.drop_append_of_le_length (by omega)]; rfl
        have e2 : (A ++ y :: x :: B).drop (j + 1) = A.drop (j + 1) ++ ([y, x] ++ B) := by rw [List.drop_append_of_le_length (by omega)]; rfl
        rw [e1, e2, List.filter_append, List.filter_append, List.filter_append, List.filter_append, actF_app, actF_app s]
        exact act_two (actF_nodup hn _) ha _ _
      · obtain ⟨q, hq⟩ : ∃ q, j + 1 - A.length = q + 2 := ⟨j + 1 - A.length - 2, by omega⟩
        have e1 : (A ++ x :: y :: B).drop (j + 1) = B.drop q := by rw [List.drop_append, List.drop_of_length_le (by omega), hq]; rfl
        have e2 : (A ++ y :: x :: B).drop (j + 1) = B.drop q := by rw [List.drop_append, List.drop_of_length_le (by omega), hq]; rfl
        rw [e1, e2]
        exact SEq.refl _
theorem one_sw (hx : x.Target ≠ ((A.length : Nat) : Int) + 1) (hy : y.Target ≠ ((A.length : Nat) : Int)) (ha : x.Author ≠ y.Author) {j : Nat} (hp : postB (lA A B x y) j = true) :
    vOut (oneS (lB A B x y) (swN A.length j)) = { vOut (oneS (lA A B x y) j) with Id := sw A.length (vOut (oneS (lA A B x y) j)).Id, Parent := sw A.length (vOut (oneS (lA A B x y) j)).Parent, Quote := sw A.length (vOut (oneS (lA A B x y) j)).Quote } := by
  obtain ⟨e, he⟩ : ∃ e, (lA A B x y)[j]? = some e := by
    unfold postB at hp
    cases hq : (lA A B x y)[j]? with
    | none => rw [hq] at hp; cases hp
    | some e => exact ⟨e, rfl⟩
  have he' : (lB A B x y)[swN A.length j]? = some (renE A.length e) := by rw [lB_sw, he]; rfl
  have g1 : (lA A B x y).getD j e0 = e := by rw [List.getD_eq_getElem?_getD, he]; rfl
  have g2 : (lB A B x y).getD (swN A.length j) e0 = renE A.length e := by rw [List.getD_eq_getElem?_getD, he']; rfl
  have hpar : parB (lB A B x y) (swN A.length j) (renE A.length e) = sw A.length (parB (lA A B x y) j e) := by
    have := parOf_sw (A := A) (B := B) hx hy j
    unfold parOf at this
    rw [he, he'] at this
    exact this
  have hpost : vPost (lB A B x y) (swN A.length j) (renE A.length e) = renS (sw A.length (j : Int)) (sw A.length (parB (lA A B x y) j e)) (sw A.length e.Quote) (vPost (lA A B x y) j e) := by
    unfold vPost renS
    rw [hpar, sw_nat]
    rfl
  have hc := actL_const ((lA A B x y).drop (j + 1)) (vPost (lA A B x y) j e)
  have hcid := actL_id ((lA A B x y).drop (j + 1)) (vPost (lA A B x y) j e)
  have hB : oneS (lB A B x y) (swN A.length j) = renS (sw A.length (j : Int)) (sw A.length (parB (lA A B x y) j e)) (sw A.length e.Quote) (actF (vPost (lA A B x y) j e) (((A ++ y :: x :: B).drop (swN A.length j + 1)).filter fun e => (e.Kind != 0) && ((j : Int) == e.Target))) := by
    unfold oneS
    rw [g2, actL_filter, hpost, ← actF_renS]
    have hd : (lB A B x y).drop (swN A.length j + 1) = ((A ++ y :: x :: B).drop (swN A.length j + 1)).map (renE A.length) := by unfold lB; rw [List.map_drop]
    have hid : (renS (sw A.length (j : Int)) (sw A.length (parB (lA A B x y) j e)) (sw A.length e.Quote) (vPost (lA A B x y) j e)).id = sw A.length (j : Int) := rfl
    rw [hid, hd, List.filter_map, actF_ren]
    congr 1
    refine List.filter_congr fun z _ => ?_
    simp only [Function.comp]
    have e1 : (renE A.length z).Kind = z.Kind := rfl
    have e2 : (renE A.length z).Target = sw A.length z.Target := rfl
    rw [e1, e2]
    congr 1
    refine bool_ext ?_
    rw [beq_iff_eq, beq_iff_eq]
    exact ⟨fun h => sw_inj h, fun h => by rw [h]⟩
  have hA : oneS (lA A B x y) j = actF (vPost (lA A B x y) j e) (((A ++ x :: y :: B).drop (j + 1)).filter fun e => (e.Kind != 0) && ((j : Int) == e.Target)) := by
    unfold oneS
    rw [g1, actL_filter]
    rfl
  have hseq := acts_sw hx hy ha (s := vPost (lA A B x y) j e) (B := B) List.nodup_nil j
  have hout := hseq.out (actF_nodup List.nodup_nil _)
  rw [hB, vOut_ren, ← hout, ← hA]
  have f1 : (vOut (oneS (lA A B x y) j)).Id = (j : Int) := by
    show (oneS (lA A B x y) j).id = _
    unfold oneS
    rw [g1, hcid]
    rfl
  have f2 : (vOut (oneS (lA A B x y) j)).Parent = parB (lA A B x y) j e := by
    show (oneS (lA A B x y) j).pa = _
    unfold oneS
    rw [g1, hc.2.2.2.2]
    rfl
  have f3 : (vOut (oneS (lA A B x y) j)).Quote = e.Quote := by
    show (oneS (lA A B x y) j).qu = _
    unfold oneS
    rw [g1, hc.2.2.1]
    rfl
  rw [f1, f2, f3]
end
/-- what View says of a message that is there -/
theorem viewS_the {l : List api_Event} {m : api_Msg} {j : Nat} (hm : m ∈ viewS l) (hid : m.Id = (j : Int)) : m = vOut (oneS l j) ∧ postB l j = true := by
  rw [viewS_ones] at hm
  obtain ⟨q, hq, rfl⟩ := List.mem_map.1 hm
  have : (vOut (oneS l q)).Id = (q : Int) := by
    show (oneS l q).id = _
    unfold oneS
    rw [actL_id]
    rfl
  have : q = j := by omega
  subst this
  exact ⟨rfl, mem_posts.1 hq⟩
theorem viewS_len_sw {A B : List api_Event} {x y : api_Event} : (viewS (lB A B x y)).length = (viewS (lA A B x y)).length := by
  rw [viewS_len, viewS_len]
  have hn : A.length + 1 < (lA A B x y).length := by rw [lA_len]; omega
  have hperm : ((posts (lA A B x y) (lA A B x y).length).map (swN A.length)).Perm (posts (lB A B x y) (lB A B x y).length) := by
    refine (List.perm_ext_iff_of_nodup ?_ (posts_nodup _ _)).2 fun q => ?_
    · refine List.pairwise_map.2 ((posts_nodup _ _).imp fun {a b} h e => h ?_)
      rw [← swN_swN A.length a, e, swN_swN]
    · rw [List.mem_map, mem_posts]
      constructor
      · rintro ⟨r, hr, rfl⟩
        rw [postB_sw]
        exact mem_posts.1 hr
      · intro hq
        refine ⟨swN A.length q, mem_posts.2 ?_, swN_swN _ _⟩
        rw [← postB_sw, swN_swN]
        exact hq
  have := hperm.length_eq
  rw [List.length_map] at this
  exact this.symm
end Go.Proofs.Ytpikahfgidgdbaa
