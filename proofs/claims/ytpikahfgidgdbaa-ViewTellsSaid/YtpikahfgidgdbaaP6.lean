/-
  View's laws in plain words: what becomes of one message; the reference's words for it.
-/
import Derived.Test.YtpikahfgidgdbaaP5
namespace Go.Proofs.Ytpikahfgidgdbaa
open Go.RowKit
/-- what events do to one message -/
def actL (s : VSt) (r : List api_Event) : VSt := r.foldl (fun s e => bif (e.Kind != 0) && (s.id == e.Target) then vAct s e else s) s
theorem actL_id (r : List api_Event) : ∀ s : VSt, (actL s r).id = s.id := by
  induction r with
  | nil => exact fun s => rfl
  | cons e r ih =>
    intro s
    unfold actL at ih ⊢
    rw [List.foldl_cons, ih]
    cases (e.Kind != 0) && (s.id == e.Target)
    · rfl
    · exact vAct_id s e
/-- a message is made, and then acted upon by what comes later -/
theorem vRun_one (l : List api_Event) : ∀ i, i ≤ l.length → vRun l i = (posts l i).map fun j => actL (vPost l j (l.getD j (api_Event.mk 0 0 [] 0 0 0 0 0 0 ⟨#[]⟩ [] 0))) ((l.take i).drop (j + 1))
  | 0, _ => rfl
  | i + 1, hi => by
    have ih := vRun_one l i (by omega)
    have hlt : i < l.length := hi
    have he := List.getElem?_eq_getElem hlt
    have htk : l.take (i + 1) = l.take i ++ [l[i]] := by rw [List.take_add_one, he]; rfl
    rw [vRun_succ, posts_succ, he, List.map_append, htk]
    dsimp only
    have hold : ∀ j ∈ posts l i, actL (vPost l j (l.getD j (api_Event.mk 0 0 [] 0 0 0 0 0 0 ⟨#[]⟩ [] 0))) ((l.take i ++ [l[i]]).drop (j + 1)) = bif (l[i].Kind != 0) && (((j : Nat) : Int) == l[i].Target) then vAct (actL (vPost l j (l.getD j (api_Event.mk 0 0 [] 0 0 0 0 0 0 ⟨#[]⟩ [] 0))) ((l.take i).drop (j + 1))) l[i] else actL (vPost l j (l.getD j (api_Event.mk 0 0 [] 0 0 0 0 0 0 ⟨#[]⟩ [] 0))) ((l.take i).drop (j + 1)) := fun j hj => by
      have hji : j < i := List.mem_range.1 (List.mem_filter.1 hj).1
      have hid := actL_id ((l.take i).drop (j + 1)) (vPost l j (l.getD j (api_Event.mk 0 0 [] 0 0 0 0 0 0 ⟨#[]⟩ [] 0)))
      rw [List.drop_append_of_le_length (by rw [List.length_take]; omega)]
      unfold actL at hid ⊢
      rw [List.foldl_append, List.foldl_cons, List.foldl_nil, hid]
      rfl
    have hpb : postB l i = (l[i].Kind == 0) := by unfold postB; rw [he]
    rw [hpb]
    unfold vStep
    cases hk : l[i].Kind == 0
    · have hk' : (l[i].Kind != 0) = true := by rw [bne, hk]; rfl
      simp only [cond_false, List.map_nil, List.append_nil]
      rw [ih, List.map_map]
      refine List.map_congr_left fun j hj => ?_
      rw [hold j hj, hk', Bool.true_and]
      simp only [Function.comp]
      rw [actL_id]
      rfl
    · have hk' : (l[i].Kind != 0) = false := by rw [bne, hk]; rfl
      simp only [cond_true, List.map_cons, List.map_nil]
      rw [ih]
      congr 1
      · refine List.map_congr_left fun j hj => ?_
        rw [hold j hj, hk', Bool.false_and, cond_false]
      · have : (l.take i ++ [l[i]]).drop (i + 1) = [] := List.drop_of_length_le (by rw [List.length_append, List.length_take]; simp; omega)
        rw [this, List.getD_eq_getElem?_getD, he]
        rfl
theorem viewS_one (l : List api_Event) : viewS l = (posts l l.length).map fun j => vOut (actL (vPost l j (l.getD j (api_Event.mk 0 0 [] 0 0 0 0 0 0 ⟨#[]⟩ [] 0))) (l.drop (j + 1))) := by
  unfold viewS
  rw [vRun_one l l.length (Nat.le_refl _), List.map_map, List.take_length]
  rfl
end Go.Proofs.Ytpikahfgidgdbaa
