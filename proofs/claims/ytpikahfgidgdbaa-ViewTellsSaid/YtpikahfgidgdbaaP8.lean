/-
  View's laws in plain words: what becomes of one message is what the reference says.
-/
import Derived.Test.YtpikahfgidgdbaaP7
namespace Go.Proofs.Ytpikahfgidgdbaa
open Go.RowKit
theorem vAct_const (s : VSt) (e : api_Event) : (vAct s e).gr = s.gr ∧ (vAct s e).au = s.au ∧ (vAct s e).qu = s.qu ∧ (vAct s e).wh = s.wh := by
  unfold vAct
  cases (e.Group != s.gr) || s.gone <;> cases (e.Kind == 1) && (e.Author == s.au) <;> cases e.Kind == 2 <;> cases e.Kind == 3 <;> cases e.Kind == 4 <;> exact ⟨rfl, rfl, rfl, rfl⟩
theorem actL_const (r : List api_Event) : ∀ s : VSt, (actL s r).gr = s.gr ∧ (actL s r).au = s.au ∧ (actL s r).qu = s.qu ∧ (actL s r).wh = s.wh ∧ (actL s r).pa = s.pa := by
  induction r with
  | nil => exact fun s => ⟨rfl, rfl, rfl, rfl, rfl⟩
  | cons e r ih =>
    intro s
    unfold actL at ih ⊢
    rw [List.foldl_cons]
    obtain ⟨h1, h2, h3, h4, h5⟩ := ih (bif (e.Kind != 0) && (s.id == e.Target) then vAct s e else s)
    rw [h1, h2, h3, h4, h5]
    cases (e.Kind != 0) && (s.id == e.Target)
    · exact ⟨rfl, rfl, rfl, rfl, rfl⟩
    · have := vAct_const s e
      exact ⟨this.1, this.2.1, this.2.2.1, this.2.2.2, vAct_pa s e⟩
theorem actL_snoc (s : VSt) (r : List api_Event) (e : api_Event) : actL s (r ++ [e]) = bif (e.Kind != 0) && ((actL s r).id == e.Target) then vAct (actL s r) e else actL s r := by
  unfold actL
  rw [List.foldl_append]
  rfl
def actB (_l : List api_Event) (j : Nat) (ej x : api_Event) : Bool := (x.Target == (j : Int)) && ((x.Group == ej.Group) && (bif x.Kind == 1 then x.Author == ej.Author else (x.Kind == 2) || ((x.Kind == 3) || (x.Kind == 4))))
theorem ref_act_eq {l : List api_Event} {j i : Nat} {ej x : api_Event} (hj : l[j]? = some ej) (hi : l[i]? = some x) (hlt : j < i) : ref16_Act l (j : Int) (i : Int) = some (actB l j ej x) := by
  unfold ref16_Act actB
  rw [getI_nat, hi, bind_some_of rfl, decide_eq_false (show ¬ (i : Int) ≤ (j : Int) by omega), cond_false]
  rw [bne]
  cases x.Target == (j : Int)
  · rfl
  · rw [getI_nat, hj, bind_some_of rfl, bne]
    cases x.Group == ej.Group
    · rfl
    · cases x.Kind == 1 <;> cases x.Kind == 2 <;> cases x.Kind == 3 <;> cases x.Kind == 4 <;> rfl
/-- the reference's variables beside the message -/
structure RelR (s : VSt) (i : Nat) (g : List Pr) (t : (List Int) × Int × ByteArray × Int × Bool × (List Arr2_Int)) : Prop where
  idx : t.2.1 = (i : Int)
  gone : t.2.2.2.2.1 = s.gone
  open_ : s.gone = false → t.1 = s.fl ∧ t.2.2.1 = s.tx ∧ t.2.2.2.1 = s.ed ∧ g = s.re
  shut : s.gone = true → s.tx = ⟨#[]⟩ ∧ s.fl = [] ∧ s.ed = 0
  re : t.2.2.2.2.2 = (sortP g).map toA
  nodup : g.Nodup
  len : g.length ≤ i
  ed : 0 ≤ s.ed ∧ s.ed ≤ (i : Int)
  fl : t.1.length ≤ 1000000
set_option maxHeartbeats 1000000 in
theorem one_step {l : List api_Event} {j i : Nat} {ej x : api_Event} {s : VSt} {g : List Pr} {t : (List Int) × Int × ByteArray × Int × Bool × (List Arr2_Int)} (hl : l.length ≤ 1000) (hj : l[j]? = some ej) (hi : l[i]? = some x) (hlt : j < i) (hfx : x.Files.length ≤ 1000000)
    (hid : s.id = (j : Int)) (hgr : s.gr = ej.Group) (hau : s.au = ej.Author) (h : RelR s i g t) : ∃ t' g', ref16_one_L1 l (j : Int) t = some (.inl t') ∧ RelR (bif (x.Kind != 0) && (s.id == x.Target) then vAct s x else s) (i + 1) g' t' := by
  obtain ⟨f, q, tx, ed, go, re⟩ := t
  obtain ⟨h1, h2, h3, h4, h5, h6, h7, h8, h9⟩ := h
  dsimp only at h1 h2 h3 h5 h9
  subst h1 h2 h5
  have hil := (List.getElem?_eq_some_iff.1 hi).1
  have hw : IntKind.i64.wrap ((i : Int) + 1) = ((i + 1 : Nat) : Int) := by rw [wrap64 (by omega) (by omega)]; rfl
  have hgx : getI l (i : Int) = some x := by rw [getI_nat]; exact hi
  unfold ref16_one_L1
  dsimp only
  rw [decide_eq_true (by omega), cond_true, ref_act_eq hj hi hlt, bind_some_of rfl, hw]
  -- nothing happens
  have skip : (bif (x.Kind != 0) && (s.id == x.Target) then vAct s x else s) = s → actB l j ej x = false → ∃ t' g', (bif !actB l j ej x then some (Sum.inl (f, ((i + 1 : Nat) : Int), tx, ed, s.gone, (sortP g).map toA)) else (getI l (i : Int)).bind fun x49 => bif x49.Kind == (1 : Int) then some (.inl (x49.Files, ((i + 1 : Nat) : Int), x49.Text, (IntKind.i64.wrap (ed + (1 : Int))), s.gone, (sortP g).map toA)) else
      bif x49.Kind == (2 : Int) then some (.inl (f, ((i + 1 : Nat) : Int), tx, ed, true, (sortP g).map toA)) else (ref16_put ((sortP g).map toA) x49.Author x49.N (x49.Kind == (3 : Int))).bind fun y50 => some (.inl (f, ((i + 1 : Nat) : Int), tx, ed, s.gone, y50))) = (some (.inl t') : Option (((List Int) × Int × ByteArray × Int × Bool × (List Arr2_Int)) ⊕ (((List Int) × ByteArray × Int × Bool × (List Arr2_Int)) ⊕ api_Msg))) ∧ RelR (bif (x.Kind != 0) && (s.id == x.Target) then vAct s x else s) (i + 1) g' t' := fun e1 e2 => by
    rw [e1, e2]
    exact ⟨_, g, rfl, rfl, rfl, h3, h4, rfl, h6, by omega, ⟨h8.1, by omega⟩, h9⟩
  by_cases ct : x.Target = (j : Int)
  · have hb1 : (x.Target == (j : Int)) = true := by simp [ct]
    have hb1' : (s.id == x.Target) = true := by rw [hid, ct]; simp
    by_cases cg : x.Group = ej.Group
    · have hb2 : (x.Group == ej.Group) = true := by simp [cg]
      have hb2' : (x.Group != s.gr) = false := by rw [hgr, cg]; simp
      by_cases k1 : x.Kind = 1
      · have q0 : (x.Kind != 0) = true := by rw [k1]; rfl
        have q1 : (x.Kind == 1) = true := by rw [k1]; rfl
        have q2 : (x.Kind == 2) = false := by rw [k1]; rfl
        have q3 : (x.Kind == 3) = false := by rw [k1]; rfl
        have q4 : (x.Kind == 4) = false := by rw [k1]; rfl
        cases ka : x.Author == ej.Author
        · refine skip ?_ ?_
          · rw [q0, hb1']
            simp [vAct, hb2', q1, q2, q3, q4, hau, ka]
          · simp [actB, hb1, hb2, q1, ka]
        · have hact : actB l j ej x = true := by simp [actB, hb1, hb2, q1, ka]
          rw [hact, hgx, bind_some_of rfl, q1, q0, hb1']
          simp only [Bool.not_true, cond_false, cond_true, Bool.and_self]
          refine ⟨_, g, rfl, ?_⟩
          cases hgo : s.gone
          · obtain ⟨e1, e2, e3, e4⟩ := h3 hgo
            have hv : vAct s x = { s with tx := x.Text, fl := x.Files, ed := RowKit.wrap64 (s.ed + 1) } := by simp [vAct, hb2', hgo, q1, hau, ka]
            rw [hv]
            have hwr : RowKit.wrap64 (s.ed + 1) = s.ed + 1 := by unfold RowKit.wrap64; omega
            exact ⟨rfl, hgo.symm, fun _ => ⟨rfl, rfl, by rw [e3, wrap_eq (by omega) (by omega)], e4⟩, (fun h => by rw [hgo] at h; cases h), rfl, h6, by omega, ⟨by show 0 ≤ RowKit.wrap64 (s.ed + 1); rw [hwr]; omega, by show RowKit.wrap64 (s.ed + 1) ≤ _; rw [hwr]; omega⟩, hfx⟩
          · have hv : vAct s x = s := by simp [vAct, hgo]
            rw [hv]
            exact ⟨rfl, hgo.symm, (fun h => by rw [hgo] at h; cases h), fun _ => h4 hgo, rfl, h6, by omega, ⟨h8.1, by omega⟩, hfx⟩
      · have q1 : (x.Kind == 1) = false := by simp [k1]
        by_cases k2 : x.Kind = 2
        · have q0 : (x.Kind != 0) = true := by rw [k2]; rfl
          have q2 : (x.Kind == 2) = true := by rw [k2]; rfl
          have hact : actB l j ej x = true := by simp [actB, hb1, hb2, q1, q2]
          rw [hact, hgx, bind_some_of rfl, q1, q2, q0, hb1']
          simp only [Bool.not_true, cond_false, cond_true, Bool.and_self]
          refine ⟨_, g, rfl, ?_⟩
          cases hgo : s.gone
          · have hv : vAct s x = { s with tx := ⟨#[]⟩, fl := [], ed := 0, gone := true, re := [] } := by simp [vAct, hb2', hgo, q1, q2]
            rw [hv]
            exact ⟨rfl, rfl, (fun h => by cases h), fun _ => ⟨rfl, rfl, rfl⟩, rfl, h6, by omega, ⟨Int.le_refl _, by show (0 : Int) ≤ _; omega⟩, h9⟩
          · have hv : vAct s x = s := by simp [vAct, hgo]
            rw [hv]
            exact ⟨rfl, hgo.symm, (fun h => by rw [hgo] at h; cases h), fun _ => h4 hgo, rfl, h6, by omega, ⟨h8.1, by omega⟩, h9⟩
        · have q2 : (x.Kind == 2) = false := by simp [k2]
          by_cases k34 : x.Kind = 3 ∨ x.Kind = 4
          · have q0 : (x.Kind != 0) = true := by rcases k34 with k | k <;> rw [k] <;> rfl
            have hact : actB l j ej x = true := by
              rcases k34 with k | k
              · simp [actB, hb1, hb2, k]
              · simp [actB, hb1, hb2, k]
            have hput := ref_put_eq (sortP g) (by rw [(sortP_perm g).length_eq]; omega) (x.Author, x.N) (x.Kind == 3)
            rw [hact, hgx, bind_some_of rfl, q1, q2, q0, hb1']
            simp only [Bool.not_true, cond_false, cond_true, Bool.and_self]
            rw [bind_some_of hput]
            rcases k34 with k3 | k4
            · have q3 : (x.Kind == 3) = true := by rw [k3]; rfl
              rw [q3, putL_in h6]
              refine ⟨_, putP g (x.Author, x.N), rfl, ?_⟩
              have hpl := putP_len g (x.Author, x.N)
              have hpl' : (putP g (x.Author, x.N)).length ≤ g.length + 1 := by rw [hpl]; split <;> omega
              cases hgo : s.gone
              · obtain ⟨e1, e2, e3, e4⟩ := h3 hgo
                have hv : vAct s x = { s with re := putP s.re (x.Author, x.N) } := by simp [vAct, hb2', hgo, q1, q2, q3]
                rw [hv]
                exact ⟨rfl, hgo.symm, fun _ => ⟨e1, e2, e3, by rw [e4]⟩, (fun h => by rw [hgo] at h; cases h), rfl, nodup_putP h6, by omega, ⟨h8.1, by show s.ed ≤ _; omega⟩, h9⟩
              · have hv : vAct s x = s := by simp [vAct, hgo]
                rw [hv]
                exact ⟨rfl, hgo.symm, (fun h => by rw [hgo] at h; cases h), fun _ => h4 hgo, rfl, nodup_putP h6, by omega, ⟨h8.1, by omega⟩, h9⟩
            · have q3 : (x.Kind == 3) = false := by rw [k4]; rfl
              have q4 : (x.Kind == 4) = true := by rw [k4]; rfl
              rw [q3, putL_out h6]
              refine ⟨_, g.erase (x.Author, x.N), rfl, ?_⟩
              have hpl' : (g.erase (x.Author, x.N)).length ≤ g.length := List.length_erase_le
              cases hgo : s.gone
              · obtain ⟨e1, e2, e3, e4⟩ := h3 hgo
                have hv : vAct s x = { s with re := s.re.erase (x.Author, x.N) } := by simp [vAct, hb2', hgo, q1, q2, q3, q4]
                rw [hv]
                exact ⟨rfl, hgo.symm, fun _ => ⟨e1, e2, e3, by rw [e4]⟩, (fun h => by rw [hgo] at h; cases h), rfl, h6.erase _, by omega, ⟨h8.1, by show s.ed ≤ _; omega⟩, h9⟩
              · have hv : vAct s x = s := by simp [vAct, hgo]
                rw [hv]
                exact ⟨rfl, hgo.symm, (fun h => by rw [hgo] at h; cases h), fun _ => h4 hgo, rfl, h6.erase _, by omega, ⟨h8.1, by omega⟩, h9⟩
          · have k3 : ¬ x.Kind = 3 := fun h => k34 (Or.inl h)
            have k4 : ¬ x.Kind = 4 := fun h => k34 (Or.inr h)
            have q3 : (x.Kind == 3) = false := beq_false_of_ne k3
            have q4 : (x.Kind == 4) = false := beq_false_of_ne k4
            refine skip ?_ ?_
            · have : vAct s x = s := by
                unfold vAct
                rw [q1, q2, q3, q4]
                cases (x.Group != s.gr) || s.gone <;> rfl
              rw [this]
              cases (x.Kind != 0) && (s.id == x.Target) <;> rfl
            · simp [actB, q1, q2, q3, q4]
    · have hb2 : (x.Group == ej.Group) = false := by simp [cg]
      have hb2' : (x.Group != s.gr) = true := by rw [hgr]; simp [cg]
      refine skip ?_ ?_
      · have : vAct s x = s := by simp [vAct, hb2']
        rw [this]
        cases (x.Kind != 0) && (s.id == x.Target) <;> rfl
      · simp [actB, hb2]
  · have hb1 : (x.Target == (j : Int)) = false := by simp [ct]
    have hb1' : (s.id == x.Target) = false := by rw [hid]; simp; exact fun e => ct e.symm
    refine skip ?_ ?_
    · rw [hb1', Bool.and_false]
      rfl
    · simp [actB, hb1]
theorem ref_one_eq {l : List api_Event} (hl : l.length ≤ 1000) (hf : ∀ e ∈ l, e.Files.length ≤ 1000000) {j : Nat} {ej : api_Event} (hj : l[j]? = some ej) : ref16_one l (j : Int) = some (vOut (actL (vPost l j ej) (l.drop (j + 1)))) := by
  have hjl := (List.getElem?_eq_some_iff.1 hj).1
  have hgj : getI l (j : Int) = some ej := by rw [getI_nat]; exact hj
  have hw : IntKind.i64.wrap ((j : Int) + 1) = ((j + 1 : Nat) : Int) := by rw [wrap64 (by omega) (by omega)]; rfl
  have hc := actL_const (l.drop (j + 1)) (vPost l j ej)
  have hcid := actL_id (l.drop (j + 1)) (vPost l j ej)
  have key : ∃ t g, loopF (ref16_one_L1 l (j : Int)) (ej.Files, ((j + 1 : Nat) : Int), ej.Text, (0 : Int), false, ([] : List Arr2_Int)) = some (.inl (t.1, t.2.2.1, t.2.2.2.1, t.2.2.2.2.1, t.2.2.2.2.2)) ∧ RelR (actL (vPost l j ej) (l.drop (j + 1))) l.length g t := by
    refine loopF_inv (body := ref16_one_L1 l (j : Int)) (s0 := (ej.Files, ((j + 1 : Nat) : Int), ej.Text, (0 : Int), false, ([] : List Arr2_Int))) (l.length - (j + 1)) (fun k t => ∃ g, RelR (actL (vPost l j ej) ((l.take (j + 1 + k)).drop (j + 1))) (j + 1 + k) g t)
      (fun o => ∃ t g, o = some (.inl (t.1, t.2.2.1, t.2.2.2.1, t.2.2.2.2.1, t.2.2.2.2.2)) ∧ RelR (actL (vPost l j ej) (l.drop (j + 1))) l.length g t) (fun k t hk hJ => ?_) (fun t hJ => ?_) ?_
    · obtain ⟨g, hJ⟩ := hJ
      have hil : j + 1 + k < l.length := by omega
      have hx := List.getElem?_eq_getElem hil
      have hc' := actL_const ((l.take (j + 1 + k)).drop (j + 1)) (vPost l j ej)
      obtain ⟨t', g', e1, e2⟩ := one_step hl hj hx (by omega) (hf _ (List.getElem_mem hil)) (actL_id _ _) hc'.1 hc'.2.1 hJ
      refine Or.inl ⟨t', e1, g', ?_⟩
      have htk : (l.take (j + 1 + (k + 1))).drop (j + 1) = (l.take (j + 1 + k)).drop (j + 1) ++ [l[j + 1 + k]] := by
        rw [← Nat.add_assoc, List.take_add_one, hx, List.drop_append_of_le_length (by rw [List.length_take]; omega)]
        rfl
      rw [htk, actL_snoc]
      exact e2
    · obtain ⟨g, hJ⟩ := hJ
      have e : j + 1 + (l.length - (j + 1)) = l.length := by omega
      rw [e, List.take_length] at hJ
      refine ⟨.inl (t.1, t.2.2.1, t.2.2.2.1, t.2.2.2.2.1, t.2.2.2.2.2), ?_, t, g, rfl, hJ⟩
      unfold ref16_one_L1
      rw [hJ.idx, decide_eq_false (by omega)]
      rfl
    · refine ⟨[], ?_⟩
      have : (l.take (j + 1 + 0)).drop (j + 1) = [] := List.drop_of_length_le (by rw [List.length_take]; omega)
      rw [this]
      exact ⟨rfl, rfl, fun _ => ⟨rfl, rfl, rfl, rfl⟩, (fun h => by cases h), by simp [sortP], List.nodup_nil, Nat.zero_le _, ⟨Int.le_refl _, by show (0 : Int) ≤ _; omega⟩, hf _ (List.mem_of_getElem? hj)⟩
  obtain ⟨t, g, hkey, hR⟩ := key
  generalize actL (vPost l j ej) (l.drop (j + 1)) = s at *
  unfold ref16_one
  rw [bind_some_of hgj, ref_parent_eq hgj, bind_some_of rfl, hw, hkey]
  refine (seqF_inl rfl).trans ?_
  dsimp only
  rw [hR.gone]
  have e1 : s.id = (j : Int) := hcid
  have e2 : s.gr = ej.Group := hc.1
  have e3 : s.au = ej.Author := hc.2.1
  have e4 : s.qu = ej.Quote := hc.2.2.1
  have e5 : s.wh = ej.Who := hc.2.2.2.1
  have e6 : s.pa = parB l (j : Int) ej := hc.2.2.2.2
  unfold vOut
  rw [e1, e2, e3, e4, e5, e6]
  cases hg : s.gone
  · obtain ⟨g1, g2, g3, g4⟩ := hR.open_ hg
    have : decide (0 + t.1.length ≤ 1000000) = true := decide_eq_true (by have := hR.fl; omega)
    simp only [cond_false]
    rw [this, chkO_true, List.nil_append, g1, g2, g3, hR.re, g4]
  · obtain ⟨g1, g2, g3⟩ := hR.shut hg
    simp only [cond_true]
    rw [g1, g2, g3]
theorem ref_view_eq {l : List api_Event} (hl : l.length ≤ 1000) (hf : ∀ e ∈ l, e.Files.length ≤ 1000000) : ref16_View l = some (viewS l) := by
  rw [viewS_one]
  have hpl : ∀ i, (posts l i).length ≤ i := fun i => by
    unfold posts
    exact Nat.le_trans (List.length_filter_le _ _) (by simp)
  have key : loopF (ref16_View_L1 l) ((0 : Int), ([] : List api_Msg)) = some (.inl ((posts l l.length).map fun j => vOut (actL (vPost l j (l.getD j (api_Event.mk 0 0 [] 0 0 0 0 0 0 ⟨#[]⟩ [] 0))) (l.drop (j + 1))))) := by
    refine loopF_inv (body := ref16_View_L1 l) (s0 := ((0 : Int), ([] : List api_Msg))) l.length (fun i s => s = ((i : Int), (posts l i).map fun j => vOut (actL (vPost l j (l.getD j (api_Event.mk 0 0 [] 0 0 0 0 0 0 ⟨#[]⟩ [] 0))) (l.drop (j + 1))))) (fun o => o = some (.inl ((posts l l.length).map fun j => vOut (actL (vPost l j (l.getD j (api_Event.mk 0 0 [] 0 0 0 0 0 0 ⟨#[]⟩ [] 0))) (l.drop (j + 1)))))) (fun i s hi hJ => ?_) (fun s hJ => ?_) rfl
    · subst hJ
      have hx := List.getElem?_eq_getElem hi
      have hw : IntKind.i64.wrap ((i : Int) + 1) = ((i + 1 : Nat) : Int) := by rw [wrap64 (by omega) (by omega)]; rfl
      refine Or.inl ⟨_, ?_, rfl⟩
      unfold ref16_View_L1
      dsimp only
      have hpb : postB l i = (l[i].Kind == 0) := by unfold postB; rw [hx]
      rw [decide_eq_true (by omega), cond_true, getI_nat, hx, bind_some_of rfl, posts_succ, hpb, hw]
      cases l[i].Kind == 0
      · simp
      · have hgd : l.getD i (api_Event.mk 0 0 [] 0 0 0 0 0 0 ⟨#[]⟩ [] 0) = l[i] := by rw [List.getD_eq_getElem?_getD, hx]; rfl
        simp only [cond_true]
        rw [bind_some_of (ref_one_eq hl hf hx), List.map_append]
        have hpi := hpl i
        have hc : decide (((posts l i).map fun j => vOut (actL (vPost l j (l.getD j (api_Event.mk 0 0 [] 0 0 0 0 0 0 ⟨#[]⟩ [] 0))) (l.drop (j + 1)))).length + [vOut (actL (vPost l i l[i]) (l.drop (i + 1)))].length ≤ 1000000) = true := decide_eq_true (by rw [List.length_map]; simp; omega)
        rw [hc, chkO_true, List.map_cons, List.map_nil, hgd]
    · subst hJ
      refine ⟨_, ?_, rfl⟩
      unfold ref16_View_L1
      dsimp only
      rw [decide_eq_false (by omega)]
      rfl
  unfold ref16_View
  rw [key]
  rfl
end Go.Proofs.Ytpikahfgidgdbaa
