/-
  The walk of OnceTakes.
-/
import Derived.Test.YtikfbgbfjipceaaQ4
import Derived.Test.YtikfbgbfjipceaaDrawn
namespace Go.Proofs.Ytikfbgbfjipceaa
open Go.RowKit
theorem info38' : (Try.prog.info? 38).map (fun i => (i.zero, i.size, i.bytes)) = some (some (.int .u16 0), 1, 2) := by kernel_rfl
theorem has_pre {l : List Int} {k : Nat} {w : World} {A : Option Addr} {n : Nat} (h : Sl w A n 1 (l.map u16C)) (hk : k ≤ n) : Sl w A k 1 ((l.take k).map u16C) := by
  have hl : l.length = n := by have := h.1; simpa using this
  refine ⟨by simp; omega, fun h0 => ?_⟩
  obtain ⟨b, o, e, hlt, hc⟩ := h.2 (by omega)
  refine ⟨b, o, e, hlt, fun j u hu => hc j u ?_⟩
  rw [List.getElem?_map] at hu ⊢
  rw [List.getElem?_take] at hu
  split at hu
  · exact hu
  · cases hu
theorem take_nv (low x most : Int) (A : Option Addr) (n c : Nat) (rs : List Rg) (w : World) (low' : Int) (rs' : List Rg) (ok : Bool) (m : Nat) (hv : takeP low rs x most = ⟨low', rs', ok⟩) (hm : rs'.length = m)
    (hS : Sl w A n 2 (rs.flatMap pairC)) (hn : n ≤ 100000) (hA : A = none → n = 0 ∧ c = 0) :
    Calls Try.prog 8 #[.agg #[.int .i64 low, .slice A n c], .int .i64 x, .int .i64 most] w fun e w' => ∃ A' c', e = .returned (.tuple #[.agg #[.int .i64 low', .slice A' m c'], .bool ok]) ∧ Sl w' A' m 2 (rs'.flatMap pairC) ∧ Below w.heap.size w w' ∧ (A' = none → m = 0 ∧ c' = 0) ∧ FreshA w A' := by
  refine (take_new low x most A n c rs w hS hn hA).mono ?_
  intro e w' h
  rw [hv] at h
  subst hm
  exact h
theorem new_tv {W w2 : World} (hb : Below (W.alloc (.cells #[.int .i64 0, .slice none 0 0] 25)).drew.heap.size (W.alloc (.cells #[.int .i64 0, .slice none 0 0] 25)).drew w2) : Tv w2 W.heap.size 0 [] none 0 0 :=
  Tv.next (W := (W.alloc (.cells #[.int .i64 0, .slice none 0 0] 25)).drew) ((Tv.new (sl_nil W) (fun _ => ⟨rfl, rfl⟩) 0).next (bd (n := 1) (Below.refl _ _))) hb
theorem u16_at {w W : World} {l : List Int} {n k bk o : Nat} {z : Int} (hS : Sl w (some ⟨bk, o, none⟩) n 1 (l.map u16C)) (hb : Below w.heap.size w W) (hz : l[k]? = some z) : W.cell? ⟨bk, o + k, none⟩ = some (.int .u16 z) := by
  have hk : k < n := by have := hS.1; have := (List.getElem?_eq_some_iff.1 hz).1; simp at *; omega
  obtain ⟨b, o', e, _, hc⟩ := (hS.below hb).2 (by omega)
  injection e with e
  injection e with e1 e2
  subst e1; subst e2
  exact hc k (.int .u16 z) (by rw [List.getElem?_map, hz]; rfl)
theorem own_sl {W : World} {base E n c : Nat} {A : Option Addr} {xs : List Value} (h : W.ownsRow base E 1 (.slice A n c) n xs) : Sl W A n 1 xs := by
  obtain ⟨A', c', e, hs, _⟩ := Sl.of_own h
  injection e with e1 e2 e3
  subst e1
  exact hs
theorem TwS.all {w W : World} {g g2 n c n2 c2 : Nat} {low low2 : Int} {rs rs2 : List Rg} {A A2 : Option Addr} {v : Value} {t : List Int} {l : List Int} {nn k bk o : Nat} {z : Int} (h : TwS w g g2 low rs A n c low2 rs2 A2 n2 c2 v t W) (hS : Sl w (some ⟨bk, o, none⟩) nn 1 (l.map u16C)) (hz : l[k]? = some z) :
    W.cell? ⟨g, 0, none⟩ = some (.int .i64 low) ∧ W.cell? ⟨g, 1, none⟩ = some (.slice A n c) ∧ W.cell? ⟨g2, 0, none⟩ = some (.int .i64 low2) ∧ W.cell? ⟨g2, 1, none⟩ = some (.slice A2 n2 c2) ∧ W.cell? ⟨bk, o + k, none⟩ = some (.int .u16 z) :=
  ⟨h.s.t0.c0, h.s.t0.c1, h.t1.c0, h.t1.c1, u16_at hS h.s.bel hz⟩
theorem hasL_v (A : Option Addr) (n c : Nat) (l : List Int) (x : Int) (w : World) (v : Bool) (hv : l.contains x = v) (hS : Sl w A n 1 (l.map u16C)) (hn : n ≤ 9223372036854775807) :
    Calls Try.prog 16 #[.slice A n c, .int .u16 x] w fun e w' => e = .returned (.bool v) ∧ w = w' := by
  rw [← hv]; exact hasL_any A n c l x w hS hn
theorem same_e (la lb : Int) (A A' : Option Addr) (n n' c c' : Nat) (xs ys : List Rg) (w : World) (h1 : la = lb) (h2 : xs = ys) (ha : Sl w A n 2 (xs.flatMap pairC)) (hb : Sl w A' n' 2 (ys.flatMap pairC)) (hn : n ≤ 9223372036854775807) (hn' : n' ≤ 9223372036854775807) :
    Calls Try.prog 17 #[.agg #[.int .i64 la, .slice A n c], .agg #[.int .i64 lb, .slice A' n' c']] w fun e w' => e = .returned (.bool true) ∧ Below w.heap.size w w' := by
  subst h1; subst h2
  exact same_tt la A A' n n' c c' xs w ha hb hn hn'
theorem TkS.cells {w W : World} {g n c : Nat} {low : Int} {rs : List Rg} {A : Option Addr} {v : Value} {t : List Int} (h : TkS w g low rs A n c v t W) : W.cell? ⟨g, 0, none⟩ = some (.int .i64 low) ∧ W.cell? ⟨g, 1, none⟩ = some (.slice A n c) := ⟨h.t0.c0, h.t0.c1⟩
theorem TkS.all {w W : World} {g n c : Nat} {low : Int} {rs : List Rg} {A : Option Addr} {v : Value} {t : List Int} {l : List Int} {nn k bk o : Nat} {z : Int} (h : TkS w g low rs A n c v t W) (hS : Sl w (some ⟨bk, o, none⟩) nn 1 (l.map u16C)) (hz : l[k]? = some z) :
    W.cell? ⟨g, 0, none⟩ = some (.int .i64 low) ∧ W.cell? ⟨g, 1, none⟩ = some (.slice A n c) ∧ W.cell? ⟨bk, o + k, none⟩ = some (.int .u16 z) := ⟨h.t0.c0, h.t0.c1, u16_at hS h.bel hz⟩
/-- taken, after the round's number -/
def TkNx (w : World) (g g2 : Nat) (low : Int) (rs : List Rg) (A : Option Addr) (n c : Nat) (low2 : Int) (rs2 : List Rg) (A2 : Option Addr) (n2 c2 : Nat) (l : List Int) (k : Nat) (v : Value) (W : World) : Prop :=
  ∃ t, TwS w g g2 low rs A n c low2 rs2 A2 n2 c2 v t W ∧ (∀ x ∈ t, x ∈ l.take (k + 1)) ∧ t.length ≤ k + 1
/-- the round's head -/
def TkRel (w : World) (g : Nat) (m : Int) (l : List Int) (k : Nat) (tv : Value) (W : World) : Prop :=
  ∃ low rs A c v t, TkS w g low rs A rs.length c v t W ∧ TkInv m l k low rs ∧ tv = v ∧ (∀ x ∈ t, x ∈ l.take k) ∧ t.length ≤ k
set_option maxRecDepth 100000 in
set_option maxHeartbeats 8000000 in
theorem takes_any (A0 : Option Addr) (n c0 : Nat) (l : List Int) (m0 : Int) (w : World) (hS : Sl w A0 n 1 (l.map u16C)) (hn : n ≤ 9223372036854775807) (hnc : n ≤ c0) (hl : ∀ x ∈ l, 0 ≤ x ∧ x < 65536) (hm : 0 ≤ m0) (hm2 : m0 < 256) :
    Calls Try.prog 4 #[.slice A0 n c0, .int .u8 m0] w fun e w' => e = .returned (.bool true) ∧ Below w.heap.size w w' := by
  have hlen : l.length = n := by have := hS.1; simpa using this
  have HL := Lib.hid hlen
  have HV := Lib.hid hl
  clear hlen hl
  obtain ⟨i0, hi0, hz0, hz1, hz2⟩ := info_parts info38'
  go_enter Try.func4, Try.ntmps4
  go_wp2_with fail
  refine (small_any _).mono ?_
  rintro e w1 ⟨rfl, hb1⟩
  have HB1 := Lib.hid hb1
  clear hb1
  by_cases h80 : 80 < n
  · go_wp2_with fail
    exact bodyPost_ret (v := .bool true) (by simp [results, Try.results4]) rfl ⟨rfl, HB1.out⟩
  · obtain ⟨m, hmm⟩ : ∃ m : Nat, (m : Int) = m0 % 100 := ⟨(m0 % 100).toNat, by omega⟩
    have hm1 : m0.tmod 100 = (m : Int) := by rw [Int.tmod_eq_emod_of_nonneg hm, hmm]
    have hml : m < 100 := by omega
    have hm3 : IntKind.u8.wrap (m : Int) = m := IntWalk.u8_in _ (by omega)
    have hm4 : IntKind.i64.wrap (m : Int) = m := IntWalk.i64_in _ (by omega)
    clear hmm
    go_wp2_with fail
    have HST0 := Lib.hid (TkS.start HB1.out)
    clear HB1
    generalize w1.alloc (.cells #[.int .i64 0, .slice none 0 0] 25) = W0 at *
    generalize w1.heap.size = g at *
    go_loopg [8, 9] n (fun q tv i W => ∃ k : Nat, k + q = n ∧ i = .int .i64 k ∧ TkRel w g m l k tv W)
    case atStart => exact ⟨0, by omega, rfl, 0, [], none, 0, _, [], HST0.out, TkInv.start m (by omega) l, rfl, by simp, by simp⟩
    case round =>
      obtain ⟨k, hk, rfl, low, rs, A, c, v, t, hst, hinv, rfl, htk, htl⟩ := hrel
      by_cases hlt : k < n
      · have hS' := hS.below hst.bel
        obtain ⟨bk, o, rfl, hbk0, hc⟩ := hS'.at_ k hlt
        obtain ⟨u, hu, hcell⟩ := hc 0 (by omega)
        simp only [Nat.mul_one, Nat.add_zero, List.getElem?_map, Option.map_eq_some_iff] at hu hcell
        obtain ⟨z, hz, rfl⟩ := hu
        simp only [u16C] at hcell
        have hzb := HV.out z (List.mem_of_getElem? hz)
        have h1 := hinv.one hz hzb.1 hzb.2 (by omega)
        have hlim := hinv.lim
        have hlen := hinv.len
        have hwz : IntKind.i64.wrap z = z := IntWalk.i64_in z (by omega)
        obtain ⟨Av, cv, rfl, hSv, _, _⟩ := Sl.of_own hst.own
        obtain ⟨⟨low2, rs2, ok⟩, htp⟩ : ∃ t, takeP low rs z m = t := ⟨_, rfl⟩
        rw [htp] at h1
        have HTP := Lib.hid htp
        have HONE := Lib.hid h1
        have HTK := Lib.hid htk
        have HZ := Lib.hid hz
        have HINV := Lib.hid hinv
        obtain ⟨nr, hnr⟩ : ∃ nr, rs.length = nr := ⟨_, rfl⟩
        obtain ⟨n2, hn2⟩ : ∃ n2, rs2.length = n2 := ⟨_, rfl⟩
        have hl2 := h1.inv.len
        have hl3 := h1.inv.lim
        simp only at hl2 hl3
        rw [hnr] at hlim hlen hst
        rw [hn2] at hl2 hl3
        have HNR := Lib.hid hnr
        have HN2 := Lib.hid hn2
        have h0 := hst.t0.c0
        have h01 := hst.t0.c1
        have HST := Lib.hid hst
        have HSV := Lib.hid hSv
        clear hz hc hS' h1 htp htk hinv hnr hn2 hst hSv
        go_upto_region 10 with fail
        go_cut [10, 11] (fun p q W => ∃ g2 A2 c2, p = .pointer (some ⟨g2, 0, none⟩) ∧ q = .bool ok ∧ TwS w g g2 low rs A nr c low2 rs2 A2 n2 c2 (.slice Av t.length cv) t W)
        case first =>
          have hgl := HST.out.t0.lt
          go_region_with (go_at_call 8; first
            | ((with_reducible refine (take_nv low z m A nr c rs wr.drew low2 rs2 ok n2 HTP.out HN2.out HST.out.drew.t0.sl (by omega) HST.out.t0.nil_).mono ?_); rintro e w2 ⟨A2, c2, rfl, hS2, hb2, hn2, hf2⟩; have HX := Lib.hid (TwS.mk1 HST.out.drew hb2 hS2 hn2 hf2 low2); clear hS2 hb2 hn2 hf2)
            | ((with_reducible refine (take_nv low z m A nr c rs (wr.alloc (.cells #[.int .i64 0, .slice none 0 0] 25)).drew low2 rs2 ok n2 HTP.out HN2.out (HST.out.next (below_alloc _ _)).drew.t0.sl (by omega) HST.out.t0.nil_).mono ?_); rintro e w2 ⟨A2, c2, rfl, hS2, hb2, hn2, hf2⟩; have HX := Lib.hid (TwS.mk2 (W := wr.drew) HST.out.drew hb2 hS2 hn2 hf2 low2); have hy := new_tv hb2; have hk0 := hy.f 0; have hk1 := hy.f 1; have hk2 := hy.c0; have hk3 := hy.c1; clear hy hS2 hb2 hn2 hf2))
          all_goals (go_wp2_with fail; go_meet; exact ⟨_, A2, c2, rfl, rfl, HX.out⟩)
        case rest =>
          obtain ⟨g2, A2, c2, rfl, rfl, hst⟩ := hcut
          clear HST h0 h01 hcell
          have HSM := Lib.hid hst
          clear hst
          have HS := Lib.hid hS
          clear hS
          go_upto_region 11 with fail
          go_cut [76] (fun v W => v = .bool false ∧ TwS w g g2 low rs A nr c low2 rs2 A2 n2 c2 (.slice Av t.length cv) t W)
          case first =>
            obtain ⟨hk0, hk1, hk2, hk3, hk4⟩ := TwS.all HSM.out HS.out HZ.out
            have HT1 : Hid (ok = true → t.contains z = false) := by
              intro h
              have h1 := HONE.out.fresh h
              cases hc : t.contains z
              · rfl
              · have h2 := HTK.out z (by simpa using hc)
                have : (l.take k).contains z = true := by simpa using h2
                rw [h1] at this
                cases this
            have HT2 : Hid (n ≤ m → (l.take k).contains z = !ok) := fun h => HONE.out.few (by rw [HL.out]; omega)
            have HT3 : Hid (hasB low rs z = !ok) := HONE.out.ok
            have hkc : k ≤ c0 := by omega
            by_cases hmn : n ≤ m
            have hd : decide (n ≤ m) = true := by simpa using hmn
            rotate_left
            have hd : decide (n ≤ m) = false := by simpa using hmn
            rotate_left
            all_goals cases ok
            ·
              refine wp_region_held_drew (S := (fun w' => w'.cell? ⟨g, 0, none⟩ = some (.int .i64 low) ∧ w'.cell? ⟨g, 1, none⟩ = some (.slice A nr c) ∧ w'.cell? ⟨g2, 0, none⟩ = some (.int .i64 low2) ∧ w'.cell? ⟨g2, 1, none⟩ = some (.slice A2 n2 c2) ∧ w'.cell? ⟨bk, o + k, none⟩ = some (.int .u16 z))) (by kernel_rfl) ?_ (fun hHeld => ?_)
              focus (first | with_reducible exact TwS.all HSM.out HS.out HZ.out | with_reducible exact TwS.all HSM.out.drew HS.out HZ.out)
              refine wpAnyH_takes (by kernel_rfl) (fun d _ _ _ _ h => by cases d <;> exact h) [0, 1, 2, 3, 4, 5, 6, 7, 8, 9, 10, 11, 12, 13, 14, 15, 16, 17, 18, 19, 20, 21, 22] 15 _ _ _ ?_ _ (by rfl) (by kernel_rfl) ?_ (by assumption) ?_
              rotate_left
              focus
                simp only [pick_lit, List.filterMap_cons, List.filterMap_nil, List.getElem?_cons_zero, List.getElem?_cons_succ]
                (refine Takes.want ?_ (by rfl) (fun w' hw' => ?_) ?_; rotate_left; (focus ((try dsimp only at hw'); go_simp; (first | done | with_reducible rfl))); try simp only [Act.put, List.setIfInBounds_toArray, List.set_cons_zero, List.set_cons_succ])
                (refine Takes.want ?_ (by rfl) (fun w' hw' => ?_) ?_; rotate_left; (focus ((try dsimp only at hw'); go_simp; (first | done | with_reducible rfl))); try simp only [Act.put, List.setIfInBounds_toArray, List.set_cons_zero, List.set_cons_succ])
                (refine Takes.skip (by rfl) ?_; try simp only [Act.put, List.setIfInBounds_toArray, List.set_cons_zero, List.set_cons_succ])
                (refine Takes.skip (by rfl) ?_; try simp only [Act.put, List.setIfInBounds_toArray, List.set_cons_zero, List.set_cons_succ])
                (refine Takes.skip (by rfl) ?_; try simp only [Act.put, List.setIfInBounds_toArray, List.set_cons_zero, List.set_cons_succ])
                (refine Takes.skip (by rfl) ?_; try simp only [Act.put, List.setIfInBounds_toArray, List.set_cons_zero, List.set_cons_succ])
                (refine Takes.skip (by rfl) ?_; try simp only [Act.put, List.setIfInBounds_toArray, List.set_cons_zero, List.set_cons_succ])
                (refine Takes.skip (by rfl) ?_; try simp only [Act.put, List.setIfInBounds_toArray, List.set_cons_zero, List.set_cons_succ])
                (refine Takes.want ?_ (by rfl) (fun w' hw' => ?_) ?_; rotate_left; (focus ((try dsimp only at hw'); go_simp; (first | done | with_reducible rfl))); try simp only [Act.put, List.setIfInBounds_toArray, List.set_cons_zero, List.set_cons_succ])
                (refine Takes.want ?_ (by rfl) (fun w' hw' => ?_) ?_; rotate_left; (focus ((try dsimp only at hw'); go_simp; (first | done | with_reducible rfl))); try simp only [Act.put, List.setIfInBounds_toArray, List.set_cons_zero, List.set_cons_succ])
                (refine Takes.want ?_ (by rfl) (fun w' hw' => ?_) ?_; rotate_left; (focus ((try dsimp only at hw'); go_simp; (first | done | with_reducible rfl))); try simp only [Act.put, List.setIfInBounds_toArray, List.set_cons_zero, List.set_cons_succ])
                (refine Takes.want ?_ (by rfl) (fun w' hw' => ?_) ?_; rotate_left; (focus ((try dsimp only at hw'); go_simp; (first | done | with_reducible rfl))); try simp only [Act.put, List.setIfInBounds_toArray, List.set_cons_zero, List.set_cons_succ])
                (refine Takes.want ?_ (by rfl) (fun w' hw' => ?_) ?_; rotate_left; (focus ((try dsimp only at hw'); go_simp; (first | done | with_reducible rfl))); try simp only [Act.put, List.setIfInBounds_toArray, List.set_cons_zero, List.set_cons_succ])
                (refine Takes.want ?_ (by rfl) (fun w' hw' => ?_) ?_; rotate_left; (focus ((try dsimp only at hw'); go_simp; (first | done | with_reducible rfl))); try simp only [Act.put, List.setIfInBounds_toArray, List.set_cons_zero, List.set_cons_succ])
                (refine Takes.want ?_ (by rfl) (fun w' hw' => ?_) ?_; rotate_left; (focus ((try dsimp only at hw'); go_simp; (first | done | with_reducible rfl))); try simp only [Act.put, List.setIfInBounds_toArray, List.set_cons_zero, List.set_cons_succ])
                (refine Takes.want ?_ (by rfl) (fun w' hw' => ?_) ?_; rotate_left; (focus ((try dsimp only at hw'); go_simp; (first | done | with_reducible rfl))); try simp only [Act.put, List.setIfInBounds_toArray, List.set_cons_zero, List.set_cons_succ])
                (refine Takes.want ?_ (by rfl) (fun w' hw' => ?_) ?_; rotate_left; (focus ((try dsimp only at hw'); go_simp; (first | done | with_reducible rfl))); try simp only [Act.put, List.setIfInBounds_toArray, List.set_cons_zero, List.set_cons_succ])
                (refine Takes.want ?_ (by rfl) (fun w' hw' => ?_) ?_; rotate_left; (focus ((try dsimp only at hw'); go_simp; (first | done | with_reducible rfl))); try simp only [Act.put, List.setIfInBounds_toArray, List.set_cons_zero, List.set_cons_succ])
                (refine Takes.want ?_ (by rfl) (fun w' hw' => ?_) ?_; rotate_left; (focus ((try dsimp only at hw'); go_simp; (first | done | with_reducible rfl))); try simp only [Act.put, List.setIfInBounds_toArray, List.set_cons_zero, List.set_cons_succ])
                (refine Takes.want ?_ (by rfl) (fun w' hw' => ?_) ?_; rotate_left; (focus ((try dsimp only at hw'); go_simp; (first | done | with_reducible rfl))); try simp only [Act.put, List.setIfInBounds_toArray, List.set_cons_zero, List.set_cons_succ])
                (refine Takes.want ?_ (by rfl) (fun w' hw' => ?_) ?_; rotate_left; (focus ((try dsimp only at hw'); go_simp; (first | done | with_reducible rfl))); try simp only [Act.put, List.setIfInBounds_toArray, List.set_cons_zero, List.set_cons_succ])
                (refine Takes.want ?_ (by rfl) (fun w' hw' => ?_) ?_; rotate_left; (focus ((try dsimp only at hw'); go_simp; (first | done | with_reducible rfl))); try simp only [Act.put, List.setIfInBounds_toArray, List.set_cons_zero, List.set_cons_succ])
                (refine Takes.want ?_ (by rfl) (fun w' hw' => ?_) ?_; rotate_left; (focus ((try dsimp only at hw'); go_simp; (first | done | with_reducible rfl))); try simp only [Act.put, List.setIfInBounds_toArray, List.set_cons_zero, List.set_cons_succ])
                exact Takes.done
              refine wpAnyH_one 23 (fuel := 14) (by kernel_rfl) (by rfl) (fun K hK => ?_)
              simp only [pick_lit, List.filterMap_cons, List.filterMap_nil, List.getElem?_cons_zero, List.getElem?_cons_succ, AtOps]
              go_simp
              (go_at_call 16; (first | with_reducible refine (hasL_v Av t.length cv t z _ false (HT1.out rfl) (own_sl (by first | with_reducible exact HSM.out.s.own | with_reducible exact HSM.out.drew.s.own)) (by omega)).mono ?_ | with_reducible refine (hasL_v (some ⟨bk, o, none⟩) k c0 (l.take k) z _ _ (HT2.out (by omega)) (has_pre (HS.out.below (by first | with_reducible exact HSM.out.s.bel | with_reducible exact HSM.out.drew.s.bel)) (by omega)) (by omega)).mono ?_); rintro e wn ⟨rfl, rfl⟩)
              refine hK.out _ _ ?_ (fun hHeld => ?_)
              focus (first | with_reducible exact TwS.all HSM.out HS.out HZ.out | with_reducible exact TwS.all HSM.out.drew HS.out HZ.out)
              clear hK K
              try simp only [Act.put, List.setIfInBounds_toArray, List.set_cons_zero, List.set_cons_succ]
              refine wpAnyH_takes (by kernel_rfl) (fun d _ _ _ _ h => by cases d <;> exact h) [24, 25, 26, 27, 28, 29, 30, 31, 32, 33, 34] 3 _ _ _ ?_ _ (by rfl) (by kernel_rfl) ?_ (by assumption) ?_
              rotate_left
              focus
                simp only [pick_lit, List.filterMap_cons, List.filterMap_nil, List.getElem?_cons_zero, List.getElem?_cons_succ]
                (refine Takes.want ?_ (by rfl) (fun w' hw' => ?_) ?_; rotate_left; (focus ((try dsimp only at hw'); go_simp; (first | done | with_reducible rfl))); try simp only [Act.put, List.setIfInBounds_toArray, List.set_cons_zero, List.set_cons_succ])
                (refine Takes.want ?_ (by rfl) (fun w' hw' => ?_) ?_; rotate_left; (focus ((try dsimp only at hw'); go_simp; (first | done | with_reducible rfl))); try simp only [Act.put, List.setIfInBounds_toArray, List.set_cons_zero, List.set_cons_succ])
                (refine Takes.want ?_ (by rfl) (fun w' hw' => ?_) ?_; rotate_left; (focus ((try dsimp only at hw'); go_simp; (first | done | with_reducible rfl))); try simp only [Act.put, List.setIfInBounds_toArray, List.set_cons_zero, List.set_cons_succ])
                (refine Takes.want ?_ (by rfl) (fun w' hw' => ?_) ?_; rotate_left; (focus ((try dsimp only at hw'); go_simp; (first | done | with_reducible rfl))); try simp only [Act.put, List.setIfInBounds_toArray, List.set_cons_zero, List.set_cons_succ])
                (refine Takes.want ?_ (by rfl) (fun w' hw' => ?_) ?_; rotate_left; (focus ((try dsimp only at hw'); go_simp; (first | done | with_reducible rfl))); try simp only [Act.put, List.setIfInBounds_toArray, List.set_cons_zero, List.set_cons_succ])
                (refine Takes.want ?_ (by rfl) (fun w' hw' => ?_) ?_; rotate_left; (focus ((try dsimp only at hw'); go_simp; (first | done | with_reducible rfl))); try simp only [Act.put, List.setIfInBounds_toArray, List.set_cons_zero, List.set_cons_succ])
                (refine Takes.want ?_ (by rfl) (fun w' hw' => ?_) ?_; rotate_left; (focus ((try dsimp only at hw'); go_simp; (first | done | with_reducible rfl))); try simp only [Act.put, List.setIfInBounds_toArray, List.set_cons_zero, List.set_cons_succ])
                (refine Takes.want ?_ (by rfl) (fun w' hw' => ?_) ?_; rotate_left; (focus ((try dsimp only at hw'); go_simp; (first | done | with_reducible rfl))); try simp only [Act.put, List.setIfInBounds_toArray, List.set_cons_zero, List.set_cons_succ])
                (refine Takes.want ?_ (by rfl) (fun w' hw' => ?_) ?_; rotate_left; (focus ((try dsimp only at hw'); go_simp; (first | done | with_reducible rfl))); try simp only [Act.put, List.setIfInBounds_toArray, List.set_cons_zero, List.set_cons_succ])
                (refine Takes.want ?_ (by rfl) (fun w' hw' => ?_) ?_; rotate_left; (focus ((try dsimp only at hw'); go_simp; (first | done | with_reducible rfl))); try simp only [Act.put, List.setIfInBounds_toArray, List.set_cons_zero, List.set_cons_succ])
                (refine Takes.want ?_ (by rfl) (fun w' hw' => ?_) ?_; rotate_left; (focus ((try dsimp only at hw'); go_simp; (first | done | with_reducible rfl))); try simp only [Act.put, List.setIfInBounds_toArray, List.set_cons_zero, List.set_cons_succ])
                exact Takes.done
              refine wpAnyH_one 35 (fuel := 2) (by kernel_rfl) (by rfl) (fun K hK => ?_)
              simp only [pick_lit, List.filterMap_cons, List.filterMap_nil, List.getElem?_cons_zero, List.getElem?_cons_succ, AtOps]
              go_simp
              (go_at_call 13; (with_reducible refine (has_v low z A nr c rs _ _ HT3.out (by first | with_reducible exact HSM.out.s.t0.sl | with_reducible exact HSM.out.drew.s.t0.sl) (by omega)).mono ?_); rintro e wn ⟨rfl, hbn⟩; have HSX : Hid (TwS w g g2 low rs A nr c low2 rs2 A2 n2 c2 (.slice Av t.length cv) t wn) := TwS.next (by first | with_reducible exact HSM.out | with_reducible exact HSM.out.drew) hbn; clear HSM; have HSM := Lib.hid HSX.out; clear HSX; clear hk0 hk1 hk2 hk3 hk4; obtain ⟨hk0, hk1, hk2, hk3, hk4⟩ := TwS.all HSM.out HS.out HZ.out; clear hbn)
              refine hK.out _ _ ?_ (fun hHeld => ?_)
              focus (first | with_reducible exact TwS.all HSM.out HS.out HZ.out | with_reducible exact TwS.all HSM.out.drew HS.out HZ.out)
              clear hK K
              try simp only [Act.put, List.setIfInBounds_toArray, List.set_cons_zero, List.set_cons_succ]
              refine wpAnyH_takes (by kernel_rfl) (fun d _ _ _ _ h => by cases d <;> exact h) [36, 37] 0 _ _ _ ?_ _ (by rfl) (by kernel_rfl) ?_ (by assumption) ?_
              rotate_left
              focus
                simp only [pick_lit, List.filterMap_cons, List.filterMap_nil, List.getElem?_cons_zero, List.getElem?_cons_succ]
                (refine Takes.want ?_ (by rfl) (fun w' hw' => ?_) ?_; rotate_left; (focus ((try dsimp only at hw'); go_simp; (first | done | with_reducible rfl))); try simp only [Act.put, List.setIfInBounds_toArray, List.set_cons_zero, List.set_cons_succ])
                (refine Takes.want ?_ (by rfl) (fun w' hw' => ?_) ?_; rotate_left; (focus ((try dsimp only at hw'); go_simp; (first | done | with_reducible rfl))); try simp only [Act.put, List.setIfInBounds_toArray, List.set_cons_zero, List.set_cons_succ])
                exact Takes.done
              refine wpAnyH_done (by kernel_rfl) ?_ _
              go_wp2_with fail
              go_meet
              exact ⟨rfl, HSM.out⟩
            ·
              refine wp_region_held_drew (S := (fun w' => w'.cell? ⟨g, 0, none⟩ = some (.int .i64 low) ∧ w'.cell? ⟨g, 1, none⟩ = some (.slice A nr c) ∧ w'.cell? ⟨g2, 0, none⟩ = some (.int .i64 low2) ∧ w'.cell? ⟨g2, 1, none⟩ = some (.slice A2 n2 c2) ∧ w'.cell? ⟨bk, o + k, none⟩ = some (.int .u16 z))) (by kernel_rfl) ?_ (fun hHeld => ?_)
              focus (first | with_reducible exact TwS.all HSM.out HS.out HZ.out | with_reducible exact TwS.all HSM.out.drew HS.out HZ.out)
              refine wpAnyH_takes (by kernel_rfl) (fun d _ _ _ _ h => by cases d <;> exact h) [0, 1, 2, 3, 4, 5, 6] 31 _ _ _ ?_ _ (by rfl) (by kernel_rfl) ?_ (by assumption) ?_
              rotate_left
              focus
                simp only [pick_lit, List.filterMap_cons, List.filterMap_nil, List.getElem?_cons_zero, List.getElem?_cons_succ]
                (refine Takes.want ?_ (by rfl) (fun w' hw' => ?_) ?_; rotate_left; (focus ((try dsimp only at hw'); go_simp; (first | done | with_reducible rfl))); try simp only [Act.put, List.setIfInBounds_toArray, List.set_cons_zero, List.set_cons_succ])
                (refine Takes.want ?_ (by rfl) (fun w' hw' => ?_) ?_; rotate_left; (focus ((try dsimp only at hw'); go_simp; (first | done | with_reducible rfl))); try simp only [Act.put, List.setIfInBounds_toArray, List.set_cons_zero, List.set_cons_succ])
                (refine Takes.want ?_ (by rfl) (fun w' hw' => ?_) ?_; rotate_left; (focus ((try dsimp only at hw'); go_simp; (first | done | with_reducible rfl))); try simp only [Act.put, List.setIfInBounds_toArray, List.set_cons_zero, List.set_cons_succ])
                (refine Takes.want ?_ (by rfl) (fun w' hw' => ?_) ?_; rotate_left; (focus ((try dsimp only at hw'); go_simp; (first | done | with_reducible rfl))); try simp only [Act.put, List.setIfInBounds_toArray, List.set_cons_zero, List.set_cons_succ])
                (refine Takes.want ?_ (by rfl) (fun w' hw' => ?_) ?_; rotate_left; (focus ((try dsimp only at hw'); go_simp; (first | done | with_reducible rfl))); try simp only [Act.put, List.setIfInBounds_toArray, List.set_cons_zero, List.set_cons_succ])
                (refine Takes.want ?_ (by rfl) (fun w' hw' => ?_) ?_; rotate_left; (focus ((try dsimp only at hw'); go_simp; (first | done | with_reducible rfl))); try simp only [Act.put, List.setIfInBounds_toArray, List.set_cons_zero, List.set_cons_succ])
                (refine Takes.want ?_ (by rfl) (fun w' hw' => ?_) ?_; rotate_left; (focus ((try dsimp only at hw'); go_simp; (first | done | with_reducible rfl))); try simp only [Act.put, List.setIfInBounds_toArray, List.set_cons_zero, List.set_cons_succ])
                exact Takes.done
              refine wpAnyH_one 7 (fuel := 30) (by kernel_rfl) (by rfl) (fun K hK => ?_)
              simp only [pick_lit, List.filterMap_cons, List.filterMap_nil, List.getElem?_cons_zero, List.getElem?_cons_succ, AtOps]
              go_simp
              (go_at_call 16; (first | with_reducible refine (hasL_v Av t.length cv t z _ false (HT1.out rfl) (own_sl (by first | with_reducible exact HSM.out.s.own | with_reducible exact HSM.out.drew.s.own)) (by omega)).mono ?_ | with_reducible refine (hasL_v (some ⟨bk, o, none⟩) k c0 (l.take k) z _ _ (HT2.out (by omega)) (has_pre (HS.out.below (by first | with_reducible exact HSM.out.s.bel | with_reducible exact HSM.out.drew.s.bel)) (by omega)) (by omega)).mono ?_); rintro e wn ⟨rfl, rfl⟩)
              refine hK.out _ _ ?_ (fun hHeld => ?_)
              focus (first | with_reducible exact TwS.all HSM.out HS.out HZ.out | with_reducible exact TwS.all HSM.out.drew HS.out HZ.out)
              clear hK K
              try simp only [Act.put, List.setIfInBounds_toArray, List.set_cons_zero, List.set_cons_succ]
              refine wpAnyH_takes (by kernel_rfl) (fun d _ _ _ _ h => by cases d <;> exact h) [8, 9, 10, 11, 12, 13, 14, 15, 16, 17, 18, 19, 20, 21, 22] 15 _ _ _ ?_ _ (by rfl) (by kernel_rfl) ?_ (by assumption) ?_
              rotate_left
              focus
                simp only [pick_lit, List.filterMap_cons, List.filterMap_nil, List.getElem?_cons_zero, List.getElem?_cons_succ]
                (refine Takes.want ?_ (by rfl) (fun w' hw' => ?_) ?_; rotate_left; (focus ((try dsimp only at hw'); go_simp; (first | done | with_reducible rfl))); try simp only [Act.put, List.setIfInBounds_toArray, List.set_cons_zero, List.set_cons_succ])
                (refine Takes.want ?_ (by rfl) (fun w' hw' => ?_) ?_; rotate_left; (focus ((try dsimp only at hw'); go_simp; (first | done | with_reducible rfl))); try simp only [Act.put, List.setIfInBounds_toArray, List.set_cons_zero, List.set_cons_succ])
                (refine Takes.want ?_ (by rfl) (fun w' hw' => ?_) ?_; rotate_left; (focus ((try dsimp only at hw'); go_simp; (first | done | with_reducible rfl))); try simp only [Act.put, List.setIfInBounds_toArray, List.set_cons_zero, List.set_cons_succ])
                (refine Takes.want ?_ (by rfl) (fun w' hw' => ?_) ?_; rotate_left; (focus ((try dsimp only at hw'); go_simp; (first | done | with_reducible rfl))); try simp only [Act.put, List.setIfInBounds_toArray, List.set_cons_zero, List.set_cons_succ])
                (refine Takes.want ?_ (by rfl) (fun w' hw' => ?_) ?_; rotate_left; (focus ((try dsimp only at hw'); go_simp; (first | done | with_reducible rfl))); try simp only [Act.put, List.setIfInBounds_toArray, List.set_cons_zero, List.set_cons_succ])
                (refine Takes.want ?_ (by rfl) (fun w' hw' => ?_) ?_; rotate_left; (focus ((try dsimp only at hw'); go_simp; (first | done | with_reducible rfl))); try simp only [Act.put, List.setIfInBounds_toArray, List.set_cons_zero, List.set_cons_succ])
                (refine Takes.want ?_ (by rfl) (fun w' hw' => ?_) ?_; rotate_left; (focus ((try dsimp only at hw'); go_simp; (first | done | with_reducible rfl))); try simp only [Act.put, List.setIfInBounds_toArray, List.set_cons_zero, List.set_cons_succ])
                (refine Takes.want ?_ (by rfl) (fun w' hw' => ?_) ?_; rotate_left; (focus ((try dsimp only at hw'); go_simp; (first | done | with_reducible rfl))); try simp only [Act.put, List.setIfInBounds_toArray, List.set_cons_zero, List.set_cons_succ])
                (refine Takes.want ?_ (by rfl) (fun w' hw' => ?_) ?_; rotate_left; (focus ((try dsimp only at hw'); go_simp; (first | done | with_reducible rfl))); try simp only [Act.put, List.setIfInBounds_toArray, List.set_cons_zero, List.set_cons_succ])
                (refine Takes.want ?_ (by rfl) (fun w' hw' => ?_) ?_; rotate_left; (focus ((try dsimp only at hw'); go_simp; (first | done | with_reducible rfl))); try simp only [Act.put, List.setIfInBounds_toArray, List.set_cons_zero, List.set_cons_succ])
                (refine Takes.want ?_ (by rfl) (fun w' hw' => ?_) ?_; rotate_left; (focus ((try dsimp only at hw'); go_simp; (first | done | with_reducible rfl))); try simp only [Act.put, List.setIfInBounds_toArray, List.set_cons_zero, List.set_cons_succ])
                (refine Takes.want ?_ (by rfl) (fun w' hw' => ?_) ?_; rotate_left; (focus ((try dsimp only at hw'); go_simp; (first | done | with_reducible rfl))); try simp only [Act.put, List.setIfInBounds_toArray, List.set_cons_zero, List.set_cons_succ])
                (refine Takes.want ?_ (by rfl) (fun w' hw' => ?_) ?_; rotate_left; (focus ((try dsimp only at hw'); go_simp; (first | done | with_reducible rfl))); try simp only [Act.put, List.setIfInBounds_toArray, List.set_cons_zero, List.set_cons_succ])
                (refine Takes.want ?_ (by rfl) (fun w' hw' => ?_) ?_; rotate_left; (focus ((try dsimp only at hw'); go_simp; (first | done | with_reducible rfl))); try simp only [Act.put, List.setIfInBounds_toArray, List.set_cons_zero, List.set_cons_succ])
                (refine Takes.want ?_ (by rfl) (fun w' hw' => ?_) ?_; rotate_left; (focus ((try dsimp only at hw'); go_simp; (first | done | with_reducible rfl))); try simp only [Act.put, List.setIfInBounds_toArray, List.set_cons_zero, List.set_cons_succ])
                exact Takes.done
              refine wpAnyH_one 23 (fuel := 14) (by kernel_rfl) (by rfl) (fun K hK => ?_)
              simp only [pick_lit, List.filterMap_cons, List.filterMap_nil, List.getElem?_cons_zero, List.getElem?_cons_succ, AtOps]
              go_simp
              (go_at_call 16; (first | with_reducible refine (hasL_v Av t.length cv t z _ false (HT1.out rfl) (own_sl (by first | with_reducible exact HSM.out.s.own | with_reducible exact HSM.out.drew.s.own)) (by omega)).mono ?_ | with_reducible refine (hasL_v (some ⟨bk, o, none⟩) k c0 (l.take k) z _ _ (HT2.out (by omega)) (has_pre (HS.out.below (by first | with_reducible exact HSM.out.s.bel | with_reducible exact HSM.out.drew.s.bel)) (by omega)) (by omega)).mono ?_); rintro e wn ⟨rfl, rfl⟩)
              refine hK.out _ _ ?_ (fun hHeld => ?_)
              focus (first | with_reducible exact TwS.all HSM.out HS.out HZ.out | with_reducible exact TwS.all HSM.out.drew HS.out HZ.out)
              clear hK K
              try simp only [Act.put, List.setIfInBounds_toArray, List.set_cons_zero, List.set_cons_succ]
              refine wpAnyH_takes (by kernel_rfl) (fun d _ _ _ _ h => by cases d <;> exact h) [24, 25, 26, 27, 28, 29, 30, 31, 32, 33, 34] 3 _ _ _ ?_ _ (by rfl) (by kernel_rfl) ?_ (by assumption) ?_
              rotate_left
              focus
                simp only [pick_lit, List.filterMap_cons, List.filterMap_nil, List.getElem?_cons_zero, List.getElem?_cons_succ]
                (refine Takes.want ?_ (by rfl) (fun w' hw' => ?_) ?_; rotate_left; (focus ((try dsimp only at hw'); go_simp; (first | done | with_reducible rfl))); try simp only [Act.put, List.setIfInBounds_toArray, List.set_cons_zero, List.set_cons_succ])
                (refine Takes.want ?_ (by rfl) (fun w' hw' => ?_) ?_; rotate_left; (focus ((try dsimp only at hw'); go_simp; (first | done | with_reducible rfl))); try simp only [Act.put, List.setIfInBounds_toArray, List.set_cons_zero, List.set_cons_succ])
                (refine Takes.want ?_ (by rfl) (fun w' hw' => ?_) ?_; rotate_left; (focus ((try dsimp only at hw'); go_simp; (first | done | with_reducible rfl))); try simp only [Act.put, List.setIfInBounds_toArray, List.set_cons_zero, List.set_cons_succ])
                (refine Takes.want ?_ (by rfl) (fun w' hw' => ?_) ?_; rotate_left; (focus ((try dsimp only at hw'); go_simp; (first | done | with_reducible rfl))); try simp only [Act.put, List.setIfInBounds_toArray, List.set_cons_zero, List.set_cons_succ])
                (refine Takes.want ?_ (by rfl) (fun w' hw' => ?_) ?_; rotate_left; (focus ((try dsimp only at hw'); go_simp; (first | done | with_reducible rfl))); try simp only [Act.put, List.setIfInBounds_toArray, List.set_cons_zero, List.set_cons_succ])
                (refine Takes.want ?_ (by rfl) (fun w' hw' => ?_) ?_; rotate_left; (focus ((try dsimp only at hw'); go_simp; (first | done | with_reducible rfl))); try simp only [Act.put, List.setIfInBounds_toArray, List.set_cons_zero, List.set_cons_succ])
                (refine Takes.want ?_ (by rfl) (fun w' hw' => ?_) ?_; rotate_left; (focus ((try dsimp only at hw'); go_simp; (first | done | with_reducible rfl))); try simp only [Act.put, List.setIfInBounds_toArray, List.set_cons_zero, List.set_cons_succ])
                (refine Takes.want ?_ (by rfl) (fun w' hw' => ?_) ?_; rotate_left; (focus ((try dsimp only at hw'); go_simp; (first | done | with_reducible rfl))); try simp only [Act.put, List.setIfInBounds_toArray, List.set_cons_zero, List.set_cons_succ])
                (refine Takes.want ?_ (by rfl) (fun w' hw' => ?_) ?_; rotate_left; (focus ((try dsimp only at hw'); go_simp; (first | done | with_reducible rfl))); try simp only [Act.put, List.setIfInBounds_toArray, List.set_cons_zero, List.set_cons_succ])
                (refine Takes.want ?_ (by rfl) (fun w' hw' => ?_) ?_; rotate_left; (focus ((try dsimp only at hw'); go_simp; (first | done | with_reducible rfl))); try simp only [Act.put, List.setIfInBounds_toArray, List.set_cons_zero, List.set_cons_succ])
                (refine Takes.want ?_ (by rfl) (fun w' hw' => ?_) ?_; rotate_left; (focus ((try dsimp only at hw'); go_simp; (first | done | with_reducible rfl))); try simp only [Act.put, List.setIfInBounds_toArray, List.set_cons_zero, List.set_cons_succ])
                exact Takes.done
              refine wpAnyH_one 35 (fuel := 2) (by kernel_rfl) (by rfl) (fun K hK => ?_)
              simp only [pick_lit, List.filterMap_cons, List.filterMap_nil, List.getElem?_cons_zero, List.getElem?_cons_succ, AtOps]
              go_simp
              (go_at_call 13; (with_reducible refine (has_v low z A nr c rs _ _ HT3.out (by first | with_reducible exact HSM.out.s.t0.sl | with_reducible exact HSM.out.drew.s.t0.sl) (by omega)).mono ?_); rintro e wn ⟨rfl, hbn⟩; have HSX : Hid (TwS w g g2 low rs A nr c low2 rs2 A2 n2 c2 (.slice Av t.length cv) t wn) := TwS.next (by first | with_reducible exact HSM.out | with_reducible exact HSM.out.drew) hbn; clear HSM; have HSM := Lib.hid HSX.out; clear HSX; clear hk0 hk1 hk2 hk3 hk4; obtain ⟨hk0, hk1, hk2, hk3, hk4⟩ := TwS.all HSM.out HS.out HZ.out; clear hbn)
              refine hK.out _ _ ?_ (fun hHeld => ?_)
              focus (first | with_reducible exact TwS.all HSM.out HS.out HZ.out | with_reducible exact TwS.all HSM.out.drew HS.out HZ.out)
              clear hK K
              try simp only [Act.put, List.setIfInBounds_toArray, List.set_cons_zero, List.set_cons_succ]
              refine wpAnyH_takes (by kernel_rfl) (fun d _ _ _ _ h => by cases d <;> exact h) [36, 37] 0 _ _ _ ?_ _ (by rfl) (by kernel_rfl) ?_ (by assumption) ?_
              rotate_left
              focus
                simp only [pick_lit, List.filterMap_cons, List.filterMap_nil, List.getElem?_cons_zero, List.getElem?_cons_succ]
                (refine Takes.want ?_ (by rfl) (fun w' hw' => ?_) ?_; rotate_left; (focus ((try dsimp only at hw'); go_simp; (first | done | with_reducible rfl))); try simp only [Act.put, List.setIfInBounds_toArray, List.set_cons_zero, List.set_cons_succ])
                (refine Takes.want ?_ (by rfl) (fun w' hw' => ?_) ?_; rotate_left; (focus ((try dsimp only at hw'); go_simp; (first | done | with_reducible rfl))); try simp only [Act.put, List.setIfInBounds_toArray, List.set_cons_zero, List.set_cons_succ])
                exact Takes.done
              refine wpAnyH_done (by kernel_rfl) ?_ _
              go_wp2_with fail
              go_meet
              exact ⟨rfl, HSM.out⟩
            ·
              refine wp_region_held_drew (S := (fun w' => w'.cell? ⟨g, 0, none⟩ = some (.int .i64 low) ∧ w'.cell? ⟨g, 1, none⟩ = some (.slice A nr c) ∧ w'.cell? ⟨g2, 0, none⟩ = some (.int .i64 low2) ∧ w'.cell? ⟨g2, 1, none⟩ = some (.slice A2 n2 c2) ∧ w'.cell? ⟨bk, o + k, none⟩ = some (.int .u16 z))) (by kernel_rfl) ?_ (fun hHeld => ?_)
              focus (first | with_reducible exact TwS.all HSM.out HS.out HZ.out | with_reducible exact TwS.all HSM.out.drew HS.out HZ.out)
              refine wpAnyH_takes (by kernel_rfl) (fun d _ _ _ _ h => by cases d <;> exact h) [0, 1, 2, 3, 4, 5, 6, 7, 8, 9, 10, 11, 12, 13, 14, 15, 16, 17, 18, 19, 20, 21, 22, 23, 24, 25, 26, 27, 28, 29, 30, 31, 32, 33, 34] 3 _ _ _ ?_ _ (by rfl) (by kernel_rfl) ?_ (by assumption) ?_
              rotate_left
              focus
                simp only [pick_lit, List.filterMap_cons, List.filterMap_nil, List.getElem?_cons_zero, List.getElem?_cons_succ]
                (refine Takes.want ?_ (by rfl) (fun w' hw' => ?_) ?_; rotate_left; (focus ((try dsimp only at hw'); go_simp; (first | done | with_reducible rfl))); try simp only [Act.put, List.setIfInBounds_toArray, List.set_cons_zero, List.set_cons_succ])
                (refine Takes.want ?_ (by rfl) (fun w' hw' => ?_) ?_; rotate_left; (focus ((try dsimp only at hw'); go_simp; (first | done | with_reducible rfl))); try simp only [Act.put, List.setIfInBounds_toArray, List.set_cons_zero, List.set_cons_succ])
                (refine Takes.skip (by rfl) ?_; try simp only [Act.put, List.setIfInBounds_toArray, List.set_cons_zero, List.set_cons_succ])
                (refine Takes.skip (by rfl) ?_; try simp only [Act.put, List.setIfInBounds_toArray, List.set_cons_zero, List.set_cons_succ])
                (refine Takes.skip (by rfl) ?_; try simp only [Act.put, List.setIfInBounds_toArray, List.set_cons_zero, List.set_cons_succ])
                (refine Takes.skip (by rfl) ?_; try simp only [Act.put, List.setIfInBounds_toArray, List.set_cons_zero, List.set_cons_succ])
                (refine Takes.skip (by rfl) ?_; try simp only [Act.put, List.setIfInBounds_toArray, List.set_cons_zero, List.set_cons_succ])
                (refine Takes.skip (by rfl) ?_; try simp only [Act.put, List.setIfInBounds_toArray, List.set_cons_zero, List.set_cons_succ])
                (refine Takes.want ?_ (by rfl) (fun w' hw' => ?_) ?_; rotate_left; (focus ((try dsimp only at hw'); go_simp; (first | done | with_reducible rfl))); try simp only [Act.put, List.setIfInBounds_toArray, List.set_cons_zero, List.set_cons_succ])
                (refine Takes.want ?_ (by rfl) (fun w' hw' => ?_) ?_; rotate_left; (focus ((try dsimp only at hw'); go_simp; (first | done | with_reducible rfl))); try simp only [Act.put, List.setIfInBounds_toArray, List.set_cons_zero, List.set_cons_succ])
                (refine Takes.want ?_ (by rfl) (fun w' hw' => ?_) ?_; rotate_left; (focus ((try dsimp only at hw'); go_simp; (first | done | with_reducible rfl))); try simp only [Act.put, List.setIfInBounds_toArray, List.set_cons_zero, List.set_cons_succ])
                (refine Takes.want ?_ (by rfl) (fun w' hw' => ?_) ?_; rotate_left; (focus ((try dsimp only at hw'); go_simp; (first | done | with_reducible rfl))); try simp only [Act.put, List.setIfInBounds_toArray, List.set_cons_zero, List.set_cons_succ])
                (refine Takes.want ?_ (by rfl) (fun w' hw' => ?_) ?_; rotate_left; (focus ((try dsimp only at hw'); go_simp; (first | done | with_reducible rfl))); try simp only [Act.put, List.setIfInBounds_toArray, List.set_cons_zero, List.set_cons_succ])
                (refine Takes.want ?_ (by rfl) (fun w' hw' => ?_) ?_; rotate_left; (focus ((try dsimp only at hw'); go_simp; (first | done | with_reducible rfl))); try simp only [Act.put, List.setIfInBounds_toArray, List.set_cons_zero, List.set_cons_succ])
                (refine Takes.want ?_ (by rfl) (fun w' hw' => ?_) ?_; rotate_left; (focus ((try dsimp only at hw'); go_simp; (first | done | with_reducible rfl))); try simp only [Act.put, List.setIfInBounds_toArray, List.set_cons_zero, List.set_cons_succ])
                (refine Takes.skip (by rfl) ?_; try simp only [Act.put, List.setIfInBounds_toArray, List.set_cons_zero, List.set_cons_succ])
                (refine Takes.skip (by rfl) ?_; try simp only [Act.put, List.setIfInBounds_toArray, List.set_cons_zero, List.set_cons_succ])
                (refine Takes.skip (by rfl) ?_; try simp only [Act.put, List.setIfInBounds_toArray, List.set_cons_zero, List.set_cons_succ])
                (refine Takes.skip (by rfl) ?_; try simp only [Act.put, List.setIfInBounds_toArray, List.set_cons_zero, List.set_cons_succ])
                (refine Takes.skip (by rfl) ?_; try simp only [Act.put, List.setIfInBounds_toArray, List.set_cons_zero, List.set_cons_succ])
                (refine Takes.skip (by rfl) ?_; try simp only [Act.put, List.setIfInBounds_toArray, List.set_cons_zero, List.set_cons_succ])
                (refine Takes.skip (by rfl) ?_; try simp only [Act.put, List.setIfInBounds_toArray, List.set_cons_zero, List.set_cons_succ])
                (refine Takes.skip (by rfl) ?_; try simp only [Act.put, List.setIfInBounds_toArray, List.set_cons_zero, List.set_cons_succ])
                (refine Takes.skip (by rfl) ?_; try simp only [Act.put, List.setIfInBounds_toArray, List.set_cons_zero, List.set_cons_succ])
                (refine Takes.skip (by rfl) ?_; try simp only [Act.put, List.setIfInBounds_toArray, List.set_cons_zero, List.set_cons_succ])
                (refine Takes.want ?_ (by rfl) (fun w' hw' => ?_) ?_; rotate_left; (focus ((try dsimp only at hw'); go_simp; (first | done | with_reducible rfl))); try simp only [Act.put, List.setIfInBounds_toArray, List.set_cons_zero, List.set_cons_succ])
                (refine Takes.want ?_ (by rfl) (fun w' hw' => ?_) ?_; rotate_left; (focus ((try dsimp only at hw'); go_simp; (first | done | with_reducible rfl))); try simp only [Act.put, List.setIfInBounds_toArray, List.set_cons_zero, List.set_cons_succ])
                (refine Takes.want ?_ (by rfl) (fun w' hw' => ?_) ?_; rotate_left; (focus ((try dsimp only at hw'); go_simp; (first | done | with_reducible rfl))); try simp only [Act.put, List.setIfInBounds_toArray, List.set_cons_zero, List.set_cons_succ])
                (refine Takes.want ?_ (by rfl) (fun w' hw' => ?_) ?_; rotate_left; (focus ((try dsimp only at hw'); go_simp; (first | done | with_reducible rfl))); try simp only [Act.put, List.setIfInBounds_toArray, List.set_cons_zero, List.set_cons_succ])
                (refine Takes.want ?_ (by rfl) (fun w' hw' => ?_) ?_; rotate_left; (focus ((try dsimp only at hw'); go_simp; (first | done | with_reducible rfl))); try simp only [Act.put, List.setIfInBounds_toArray, List.set_cons_zero, List.set_cons_succ])
                (refine Takes.want ?_ (by rfl) (fun w' hw' => ?_) ?_; rotate_left; (focus ((try dsimp only at hw'); go_simp; (first | done | with_reducible rfl))); try simp only [Act.put, List.setIfInBounds_toArray, List.set_cons_zero, List.set_cons_succ])
                (refine Takes.want ?_ (by rfl) (fun w' hw' => ?_) ?_; rotate_left; (focus ((try dsimp only at hw'); go_simp; (first | done | with_reducible rfl))); try simp only [Act.put, List.setIfInBounds_toArray, List.set_cons_zero, List.set_cons_succ])
                (refine Takes.want ?_ (by rfl) (fun w' hw' => ?_) ?_; rotate_left; (focus ((try dsimp only at hw'); go_simp; (first | done | with_reducible rfl))); try simp only [Act.put, List.setIfInBounds_toArray, List.set_cons_zero, List.set_cons_succ])
                (refine Takes.want ?_ (by rfl) (fun w' hw' => ?_) ?_; rotate_left; (focus ((try dsimp only at hw'); go_simp; (first | done | with_reducible rfl))); try simp only [Act.put, List.setIfInBounds_toArray, List.set_cons_zero, List.set_cons_succ])
                (refine Takes.want ?_ (by rfl) (fun w' hw' => ?_) ?_; rotate_left; (focus ((try dsimp only at hw'); go_simp; (first | done | with_reducible rfl))); try simp only [Act.put, List.setIfInBounds_toArray, List.set_cons_zero, List.set_cons_succ])
                exact Takes.done
              refine wpAnyH_one 35 (fuel := 2) (by kernel_rfl) (by rfl) (fun K hK => ?_)
              simp only [pick_lit, List.filterMap_cons, List.filterMap_nil, List.getElem?_cons_zero, List.getElem?_cons_succ, AtOps]
              go_simp
              (go_at_call 13; (with_reducible refine (has_v low z A nr c rs _ _ HT3.out (by first | with_reducible exact HSM.out.s.t0.sl | with_reducible exact HSM.out.drew.s.t0.sl) (by omega)).mono ?_); rintro e wn ⟨rfl, hbn⟩; have HSX : Hid (TwS w g g2 low rs A nr c low2 rs2 A2 n2 c2 (.slice Av t.length cv) t wn) := TwS.next (by first | with_reducible exact HSM.out | with_reducible exact HSM.out.drew) hbn; clear HSM; have HSM := Lib.hid HSX.out; clear HSX; clear hk0 hk1 hk2 hk3 hk4; obtain ⟨hk0, hk1, hk2, hk3, hk4⟩ := TwS.all HSM.out HS.out HZ.out; clear hbn)
              refine hK.out _ _ ?_ (fun hHeld => ?_)
              focus (first | with_reducible exact TwS.all HSM.out HS.out HZ.out | with_reducible exact TwS.all HSM.out.drew HS.out HZ.out)
              clear hK K
              try simp only [Act.put, List.setIfInBounds_toArray, List.set_cons_zero, List.set_cons_succ]
              refine wpAnyH_takes (by kernel_rfl) (fun d _ _ _ _ h => by cases d <;> exact h) [36, 37] 0 _ _ _ ?_ _ (by rfl) (by kernel_rfl) ?_ (by assumption) ?_
              rotate_left
              focus
                simp only [pick_lit, List.filterMap_cons, List.filterMap_nil, List.getElem?_cons_zero, List.getElem?_cons_succ]
                (refine Takes.want ?_ (by rfl) (fun w' hw' => ?_) ?_; rotate_left; (focus ((try dsimp only at hw'); go_simp; (first | done | with_reducible rfl))); try simp only [Act.put, List.setIfInBounds_toArray, List.set_cons_zero, List.set_cons_succ])
                (refine Takes.want ?_ (by rfl) (fun w' hw' => ?_) ?_; rotate_left; (focus ((try dsimp only at hw'); go_simp; (first | done | with_reducible rfl))); try simp only [Act.put, List.setIfInBounds_toArray, List.set_cons_zero, List.set_cons_succ])
                exact Takes.done
              refine wpAnyH_done (by kernel_rfl) ?_ _
              go_wp2_with fail
              go_meet
              exact ⟨rfl, HSM.out⟩
            ·
              refine wp_region_held_drew (S := (fun w' => w'.cell? ⟨g, 0, none⟩ = some (.int .i64 low) ∧ w'.cell? ⟨g, 1, none⟩ = some (.slice A nr c) ∧ w'.cell? ⟨g2, 0, none⟩ = some (.int .i64 low2) ∧ w'.cell? ⟨g2, 1, none⟩ = some (.slice A2 n2 c2) ∧ w'.cell? ⟨bk, o + k, none⟩ = some (.int .u16 z))) (by kernel_rfl) ?_ (fun hHeld => ?_)
              focus (first | with_reducible exact TwS.all HSM.out HS.out HZ.out | with_reducible exact TwS.all HSM.out.drew HS.out HZ.out)
              refine wpAnyH_takes (by kernel_rfl) (fun d _ _ _ _ h => by cases d <;> exact h) [0, 1, 2, 3, 4, 5, 6] 31 _ _ _ ?_ _ (by rfl) (by kernel_rfl) ?_ (by assumption) ?_
              rotate_left
              focus
                simp only [pick_lit, List.filterMap_cons, List.filterMap_nil, List.getElem?_cons_zero, List.getElem?_cons_succ]
                (refine Takes.want ?_ (by rfl) (fun w' hw' => ?_) ?_; rotate_left; (focus ((try dsimp only at hw'); go_simp; (first | done | with_reducible rfl))); try simp only [Act.put, List.setIfInBounds_toArray, List.set_cons_zero, List.set_cons_succ])
                (refine Takes.want ?_ (by rfl) (fun w' hw' => ?_) ?_; rotate_left; (focus ((try dsimp only at hw'); go_simp; (first | done | with_reducible rfl))); try simp only [Act.put, List.setIfInBounds_toArray, List.set_cons_zero, List.set_cons_succ])
                (refine Takes.want ?_ (by rfl) (fun w' hw' => ?_) ?_; rotate_left; (focus ((try dsimp only at hw'); go_simp; (first | done | with_reducible rfl))); try simp only [Act.put, List.setIfInBounds_toArray, List.set_cons_zero, List.set_cons_succ])
                (refine Takes.want ?_ (by rfl) (fun w' hw' => ?_) ?_; rotate_left; (focus ((try dsimp only at hw'); go_simp; (first | done | with_reducible rfl))); try simp only [Act.put, List.setIfInBounds_toArray, List.set_cons_zero, List.set_cons_succ])
                (refine Takes.want ?_ (by rfl) (fun w' hw' => ?_) ?_; rotate_left; (focus ((try dsimp only at hw'); go_simp; (first | done | with_reducible rfl))); try simp only [Act.put, List.setIfInBounds_toArray, List.set_cons_zero, List.set_cons_succ])
                (refine Takes.want ?_ (by rfl) (fun w' hw' => ?_) ?_; rotate_left; (focus ((try dsimp only at hw'); go_simp; (first | done | with_reducible rfl))); try simp only [Act.put, List.setIfInBounds_toArray, List.set_cons_zero, List.set_cons_succ])
                (refine Takes.want ?_ (by rfl) (fun w' hw' => ?_) ?_; rotate_left; (focus ((try dsimp only at hw'); go_simp; (first | done | with_reducible rfl))); try simp only [Act.put, List.setIfInBounds_toArray, List.set_cons_zero, List.set_cons_succ])
                exact Takes.done
              refine wpAnyH_one 7 (fuel := 30) (by kernel_rfl) (by rfl) (fun K hK => ?_)
              simp only [pick_lit, List.filterMap_cons, List.filterMap_nil, List.getElem?_cons_zero, List.getElem?_cons_succ, AtOps]
              go_simp
              (go_at_call 16; (first | with_reducible refine (hasL_v Av t.length cv t z _ false (HT1.out rfl) (own_sl (by first | with_reducible exact HSM.out.s.own | with_reducible exact HSM.out.drew.s.own)) (by omega)).mono ?_ | with_reducible refine (hasL_v (some ⟨bk, o, none⟩) k c0 (l.take k) z _ _ (HT2.out (by omega)) (has_pre (HS.out.below (by first | with_reducible exact HSM.out.s.bel | with_reducible exact HSM.out.drew.s.bel)) (by omega)) (by omega)).mono ?_); rintro e wn ⟨rfl, rfl⟩)
              refine hK.out _ _ ?_ (fun hHeld => ?_)
              focus (first | with_reducible exact TwS.all HSM.out HS.out HZ.out | with_reducible exact TwS.all HSM.out.drew HS.out HZ.out)
              clear hK K
              try simp only [Act.put, List.setIfInBounds_toArray, List.set_cons_zero, List.set_cons_succ]
              refine wpAnyH_takes (by kernel_rfl) (fun d _ _ _ _ h => by cases d <;> exact h) [8, 9, 10, 11, 12, 13, 14, 15, 16, 17, 18, 19, 20, 21, 22, 23, 24, 25, 26, 27, 28, 29, 30, 31, 32, 33, 34] 3 _ _ _ ?_ _ (by rfl) (by kernel_rfl) ?_ (by assumption) ?_
              rotate_left
              focus
                simp only [pick_lit, List.filterMap_cons, List.filterMap_nil, List.getElem?_cons_zero, List.getElem?_cons_succ]
                (refine Takes.want ?_ (by rfl) (fun w' hw' => ?_) ?_; rotate_left; (focus ((try dsimp only at hw'); go_simp; (first | done | with_reducible rfl))); try simp only [Act.put, List.setIfInBounds_toArray, List.set_cons_zero, List.set_cons_succ])
                (refine Takes.want ?_ (by rfl) (fun w' hw' => ?_) ?_; rotate_left; (focus ((try dsimp only at hw'); go_simp; (first | done | with_reducible rfl))); try simp only [Act.put, List.setIfInBounds_toArray, List.set_cons_zero, List.set_cons_succ])
                (refine Takes.want ?_ (by rfl) (fun w' hw' => ?_) ?_; rotate_left; (focus ((try dsimp only at hw'); go_simp; (first | done | with_reducible rfl))); try simp only [Act.put, List.setIfInBounds_toArray, List.set_cons_zero, List.set_cons_succ])
                (refine Takes.want ?_ (by rfl) (fun w' hw' => ?_) ?_; rotate_left; (focus ((try dsimp only at hw'); go_simp; (first | done | with_reducible rfl))); try simp only [Act.put, List.setIfInBounds_toArray, List.set_cons_zero, List.set_cons_succ])
                (refine Takes.want ?_ (by rfl) (fun w' hw' => ?_) ?_; rotate_left; (focus ((try dsimp only at hw'); go_simp; (first | done | with_reducible rfl))); try simp only [Act.put, List.setIfInBounds_toArray, List.set_cons_zero, List.set_cons_succ])
                (refine Takes.want ?_ (by rfl) (fun w' hw' => ?_) ?_; rotate_left; (focus ((try dsimp only at hw'); go_simp; (first | done | with_reducible rfl))); try simp only [Act.put, List.setIfInBounds_toArray, List.set_cons_zero, List.set_cons_succ])
                (refine Takes.want ?_ (by rfl) (fun w' hw' => ?_) ?_; rotate_left; (focus ((try dsimp only at hw'); go_simp; (first | done | with_reducible rfl))); try simp only [Act.put, List.setIfInBounds_toArray, List.set_cons_zero, List.set_cons_succ])
                (refine Takes.skip (by rfl) ?_; try simp only [Act.put, List.setIfInBounds_toArray, List.set_cons_zero, List.set_cons_succ])
                (refine Takes.skip (by rfl) ?_; try simp only [Act.put, List.setIfInBounds_toArray, List.set_cons_zero, List.set_cons_succ])
                (refine Takes.skip (by rfl) ?_; try simp only [Act.put, List.setIfInBounds_toArray, List.set_cons_zero, List.set_cons_succ])
                (refine Takes.skip (by rfl) ?_; try simp only [Act.put, List.setIfInBounds_toArray, List.set_cons_zero, List.set_cons_succ])
                (refine Takes.skip (by rfl) ?_; try simp only [Act.put, List.setIfInBounds_toArray, List.set_cons_zero, List.set_cons_succ])
                (refine Takes.skip (by rfl) ?_; try simp only [Act.put, List.setIfInBounds_toArray, List.set_cons_zero, List.set_cons_succ])
                (refine Takes.skip (by rfl) ?_; try simp only [Act.put, List.setIfInBounds_toArray, List.set_cons_zero, List.set_cons_succ])
                (refine Takes.skip (by rfl) ?_; try simp only [Act.put, List.setIfInBounds_toArray, List.set_cons_zero, List.set_cons_succ])
                (refine Takes.skip (by rfl) ?_; try simp only [Act.put, List.setIfInBounds_toArray, List.set_cons_zero, List.set_cons_succ])
                (refine Takes.skip (by rfl) ?_; try simp only [Act.put, List.setIfInBounds_toArray, List.set_cons_zero, List.set_cons_succ])
                (refine Takes.want ?_ (by rfl) (fun w' hw' => ?_) ?_; rotate_left; (focus ((try dsimp only at hw'); go_simp; (first | done | with_reducible rfl))); try simp only [Act.put, List.setIfInBounds_toArray, List.set_cons_zero, List.set_cons_succ])
                (refine Takes.want ?_ (by rfl) (fun w' hw' => ?_) ?_; rotate_left; (focus ((try dsimp only at hw'); go_simp; (first | done | with_reducible rfl))); try simp only [Act.put, List.setIfInBounds_toArray, List.set_cons_zero, List.set_cons_succ])
                (refine Takes.want ?_ (by rfl) (fun w' hw' => ?_) ?_; rotate_left; (focus ((try dsimp only at hw'); go_simp; (first | done | with_reducible rfl))); try simp only [Act.put, List.setIfInBounds_toArray, List.set_cons_zero, List.set_cons_succ])
                (refine Takes.want ?_ (by rfl) (fun w' hw' => ?_) ?_; rotate_left; (focus ((try dsimp only at hw'); go_simp; (first | done | with_reducible rfl))); try simp only [Act.put, List.setIfInBounds_toArray, List.set_cons_zero, List.set_cons_succ])
                (refine Takes.want ?_ (by rfl) (fun w' hw' => ?_) ?_; rotate_left; (focus ((try dsimp only at hw'); go_simp; (first | done | with_reducible rfl))); try simp only [Act.put, List.setIfInBounds_toArray, List.set_cons_zero, List.set_cons_succ])
                (refine Takes.want ?_ (by rfl) (fun w' hw' => ?_) ?_; rotate_left; (focus ((try dsimp only at hw'); go_simp; (first | done | with_reducible rfl))); try simp only [Act.put, List.setIfInBounds_toArray, List.set_cons_zero, List.set_cons_succ])
                (refine Takes.want ?_ (by rfl) (fun w' hw' => ?_) ?_; rotate_left; (focus ((try dsimp only at hw'); go_simp; (first | done | with_reducible rfl))); try simp only [Act.put, List.setIfInBounds_toArray, List.set_cons_zero, List.set_cons_succ])
                (refine Takes.want ?_ (by rfl) (fun w' hw' => ?_) ?_; rotate_left; (focus ((try dsimp only at hw'); go_simp; (first | done | with_reducible rfl))); try simp only [Act.put, List.setIfInBounds_toArray, List.set_cons_zero, List.set_cons_succ])
                (refine Takes.want ?_ (by rfl) (fun w' hw' => ?_) ?_; rotate_left; (focus ((try dsimp only at hw'); go_simp; (first | done | with_reducible rfl))); try simp only [Act.put, List.setIfInBounds_toArray, List.set_cons_zero, List.set_cons_succ])
                (refine Takes.want ?_ (by rfl) (fun w' hw' => ?_) ?_; rotate_left; (focus ((try dsimp only at hw'); go_simp; (first | done | with_reducible rfl))); try simp only [Act.put, List.setIfInBounds_toArray, List.set_cons_zero, List.set_cons_succ])
                exact Takes.done
              refine wpAnyH_one 35 (fuel := 2) (by kernel_rfl) (by rfl) (fun K hK => ?_)
              simp only [pick_lit, List.filterMap_cons, List.filterMap_nil, List.getElem?_cons_zero, List.getElem?_cons_succ, AtOps]
              go_simp
              (go_at_call 13; (with_reducible refine (has_v low z A nr c rs _ _ HT3.out (by first | with_reducible exact HSM.out.s.t0.sl | with_reducible exact HSM.out.drew.s.t0.sl) (by omega)).mono ?_); rintro e wn ⟨rfl, hbn⟩; have HSX : Hid (TwS w g g2 low rs A nr c low2 rs2 A2 n2 c2 (.slice Av t.length cv) t wn) := TwS.next (by first | with_reducible exact HSM.out | with_reducible exact HSM.out.drew) hbn; clear HSM; have HSM := Lib.hid HSX.out; clear HSX; clear hk0 hk1 hk2 hk3 hk4; obtain ⟨hk0, hk1, hk2, hk3, hk4⟩ := TwS.all HSM.out HS.out HZ.out; clear hbn)
              refine hK.out _ _ ?_ (fun hHeld => ?_)
              focus (first | with_reducible exact TwS.all HSM.out HS.out HZ.out | with_reducible exact TwS.all HSM.out.drew HS.out HZ.out)
              clear hK K
              try simp only [Act.put, List.setIfInBounds_toArray, List.set_cons_zero, List.set_cons_succ]
              refine wpAnyH_takes (by kernel_rfl) (fun d _ _ _ _ h => by cases d <;> exact h) [36, 37] 0 _ _ _ ?_ _ (by rfl) (by kernel_rfl) ?_ (by assumption) ?_
              rotate_left
              focus
                simp only [pick_lit, List.filterMap_cons, List.filterMap_nil, List.getElem?_cons_zero, List.getElem?_cons_succ]
                (refine Takes.want ?_ (by rfl) (fun w' hw' => ?_) ?_; rotate_left; (focus ((try dsimp only at hw'); go_simp; (first | done | with_reducible rfl))); try simp only [Act.put, List.setIfInBounds_toArray, List.set_cons_zero, List.set_cons_succ])
                (refine Takes.want ?_ (by rfl) (fun w' hw' => ?_) ?_; rotate_left; (focus ((try dsimp only at hw'); go_simp; (first | done | with_reducible rfl))); try simp only [Act.put, List.setIfInBounds_toArray, List.set_cons_zero, List.set_cons_succ])
                exact Takes.done
              refine wpAnyH_done (by kernel_rfl) ?_ _
              go_wp2_with fail
              go_meet
              exact ⟨rfl, HSM.out⟩
          case rest =>
            obtain ⟨rfl, hst⟩ := hcut
            clear HSM
            have HSM := Lib.hid hst
            clear hst
            go_upto_region 13 with fail
            go_cut [104] (fun v W => v = .bool false ∧ TwS w g g2 low rs A nr c low2 rs2 A2 n2 c2 (.slice Av t.length cv) t W)
            case first =>
              obtain ⟨hk0, hk1, hk2, hk3⟩ := TwS.cells HSM.out
              have HR : Hid (rightB low2 rs2 = true) := HONE.out.inv.right
              have HR0 : Hid (rightB low rs = true) := HINV.out.right
              have hm0 : ¬ ((m : Int) < 0) := by omega
              have hd2 : decide (m < n2) = false := by simp; omega
              have hd3 : decide (low2 < low) = false := by have := HONE.out.le; simp at this ⊢; exact this
              have HBAD : Hid (ok = false → low2 = low ∧ rs2 = rs) := fun h => HONE.out.bad h
              cases ok
              ·
                refine wp_region_held_drew (S := (fun w' => w'.cell? ⟨g, 0, none⟩ = some (.int .i64 low) ∧ w'.cell? ⟨g, 1, none⟩ = some (.slice A nr c) ∧ w'.cell? ⟨g2, 0, none⟩ = some (.int .i64 low2) ∧ w'.cell? ⟨g2, 1, none⟩ = some (.slice A2 n2 c2))) (by kernel_rfl) ?_ (fun hHeld => ?_)
                focus (first | with_reducible exact TwS.cells HSM.out | with_reducible exact TwS.cells HSM.out.drew)
                refine wpAnyH_takes (by kernel_rfl) (fun d _ _ _ _ h => by cases d <;> exact h) [0, 1, 2, 3, 4] 23 _ _ _ ?_ _ (by rfl) (by kernel_rfl) ?_ (by assumption) ?_
                rotate_left
                focus
                  simp only [pick_lit, List.filterMap_cons, List.filterMap_nil, List.getElem?_cons_zero, List.getElem?_cons_succ]
                  (refine Takes.want ?_ (by rfl) (fun w' hw' => ?_) ?_; rotate_left; (focus ((try dsimp only at hw'); go_simp; (first | done | with_reducible rfl))); try simp only [Act.put, List.setIfInBounds_toArray, List.set_cons_zero, List.set_cons_succ])
                  (refine Takes.want ?_ (by rfl) (fun w' hw' => ?_) ?_; rotate_left; (focus ((try dsimp only at hw'); go_simp; (first | done | with_reducible rfl))); try simp only [Act.put, List.setIfInBounds_toArray, List.set_cons_zero, List.set_cons_succ])
                  (refine Takes.want ?_ (by rfl) (fun w' hw' => ?_) ?_; rotate_left; (focus ((try dsimp only at hw'); go_simp; (first | done | with_reducible rfl))); try simp only [Act.put, List.setIfInBounds_toArray, List.set_cons_zero, List.set_cons_succ])
                  (refine Takes.want ?_ (by rfl) (fun w' hw' => ?_) ?_; rotate_left; (focus ((try dsimp only at hw'); go_simp; (first | done | with_reducible rfl))); try simp only [Act.put, List.setIfInBounds_toArray, List.set_cons_zero, List.set_cons_succ])
                  (refine Takes.want ?_ (by rfl) (fun w' hw' => ?_) ?_; rotate_left; (focus ((try dsimp only at hw'); go_simp; (first | done | with_reducible rfl))); try simp only [Act.put, List.setIfInBounds_toArray, List.set_cons_zero, List.set_cons_succ])
                  exact Takes.done
                refine wpAnyH_one 5 (fuel := 22) (by kernel_rfl) (by rfl) (fun K hK => ?_)
                simp only [pick_lit, List.filterMap_cons, List.filterMap_nil, List.getElem?_cons_zero, List.getElem?_cons_succ, AtOps]
                go_simp
                (go_at_call 17; (with_reducible refine (same_e low2 low A2 A n2 nr c2 c rs2 rs _ (HBAD.out rfl).1 (HBAD.out rfl).2 (by first | with_reducible exact HSM.out.t1.sl | with_reducible exact HSM.out.drew.t1.sl) (by first | with_reducible exact HSM.out.s.t0.sl | with_reducible exact HSM.out.drew.s.t0.sl) (by omega) (by omega)).mono ?_); rintro e wn ⟨rfl, hbn⟩; have HSX : Hid (TwS w g g2 low rs A nr c low2 rs2 A2 n2 c2 (.slice Av t.length cv) t wn) := TwS.next (by first | with_reducible exact HSM.out | with_reducible exact HSM.out.drew) hbn; clear HSM; have HSM := Lib.hid HSX.out; clear HSX; clear hk0 hk1 hk2 hk3; obtain ⟨hk0, hk1, hk2, hk3⟩ := TwS.cells HSM.out; clear hbn)
                refine hK.out _ _ ?_ (fun hHeld => ?_)
                focus (first | with_reducible exact TwS.cells HSM.out | with_reducible exact TwS.cells HSM.out.drew)
                clear hK K
                try simp only [Act.put, List.setIfInBounds_toArray, List.set_cons_zero, List.set_cons_succ]
                refine wpAnyH_takes (by kernel_rfl) (fun d _ _ _ _ h => by cases d <;> exact h) [6, 7, 8, 9] 18 _ _ _ ?_ _ (by rfl) (by kernel_rfl) ?_ (by assumption) ?_
                rotate_left
                focus
                  simp only [pick_lit, List.filterMap_cons, List.filterMap_nil, List.getElem?_cons_zero, List.getElem?_cons_succ]
                  (refine Takes.want ?_ (by rfl) (fun w' hw' => ?_) ?_; rotate_left; (focus ((try dsimp only at hw'); go_simp; (first | done | with_reducible rfl))); try simp only [Act.put, List.setIfInBounds_toArray, List.set_cons_zero, List.set_cons_succ])
                  (refine Takes.want ?_ (by rfl) (fun w' hw' => ?_) ?_; rotate_left; (focus ((try dsimp only at hw'); go_simp; (first | done | with_reducible rfl))); try simp only [Act.put, List.setIfInBounds_toArray, List.set_cons_zero, List.set_cons_succ])
                  (refine Takes.want ?_ (by rfl) (fun w' hw' => ?_) ?_; rotate_left; (focus ((try dsimp only at hw'); go_simp; (first | done | with_reducible rfl))); try simp only [Act.put, List.setIfInBounds_toArray, List.set_cons_zero, List.set_cons_succ])
                  (refine Takes.want ?_ (by rfl) (fun w' hw' => ?_) ?_; rotate_left; (focus ((try dsimp only at hw'); go_simp; (first | done | with_reducible rfl))); try simp only [Act.put, List.setIfInBounds_toArray, List.set_cons_zero, List.set_cons_succ])
                  exact Takes.done
                refine wpAnyH_one 10 (fuel := 17) (by kernel_rfl) (by rfl) (fun K hK => ?_)
                simp only [pick_lit, List.filterMap_cons, List.filterMap_nil, List.getElem?_cons_zero, List.getElem?_cons_succ, AtOps]
                go_simp
                (go_at_call 12; (with_reducible refine (right_v low2 A2 n2 c2 rs2 _ true HR.out (by first | with_reducible exact HSM.out.t1.sl | with_reducible exact HSM.out.drew.t1.sl) (by omega)).mono ?_); rintro e wn ⟨rfl, hbn⟩; have HSX : Hid (TwS w g g2 low rs A nr c low2 rs2 A2 n2 c2 (.slice Av t.length cv) t wn) := TwS.next (by first | with_reducible exact HSM.out | with_reducible exact HSM.out.drew) hbn; clear HSM; have HSM := Lib.hid HSX.out; clear HSX; clear hk0 hk1 hk2 hk3; obtain ⟨hk0, hk1, hk2, hk3⟩ := TwS.cells HSM.out; clear hbn)
                refine hK.out _ _ ?_ (fun hHeld => ?_)
                focus (first | with_reducible exact TwS.cells HSM.out | with_reducible exact TwS.cells HSM.out.drew)
                clear hK K
                try simp only [Act.put, List.setIfInBounds_toArray, List.set_cons_zero, List.set_cons_succ]
                refine wpAnyH_takes (by kernel_rfl) (fun d _ _ _ _ h => by cases d <;> exact h) [11, 12, 13, 14, 15, 16, 17, 18, 19, 20, 21, 22, 24] 4 _ _ _ ?_ _ (by rfl) (by kernel_rfl) ?_ (by assumption) ?_
                rotate_left
                focus
                  simp only [pick_lit, List.filterMap_cons, List.filterMap_nil, List.getElem?_cons_zero, List.getElem?_cons_succ]
                  (refine Takes.want ?_ (by rfl) (fun w' hw' => ?_) ?_; rotate_left; (focus ((try dsimp only at hw'); go_simp; (first | done | with_reducible rfl))); try simp only [Act.put, List.setIfInBounds_toArray, List.set_cons_zero, List.set_cons_succ])
                  (refine Takes.want ?_ (by rfl) (fun w' hw' => ?_) ?_; rotate_left; (focus ((try dsimp only at hw'); go_simp; (first | done | with_reducible rfl))); try simp only [Act.put, List.setIfInBounds_toArray, List.set_cons_zero, List.set_cons_succ])
                  (refine Takes.want ?_ (by rfl) (fun w' hw' => ?_) ?_; rotate_left; (focus ((try dsimp only at hw'); go_simp; (first | done | with_reducible rfl))); try simp only [Act.put, List.setIfInBounds_toArray, List.set_cons_zero, List.set_cons_succ])
                  (refine Takes.want ?_ (by rfl) (fun w' hw' => ?_) ?_; rotate_left; (focus ((try dsimp only at hw'); go_simp; (first | done | with_reducible rfl))); try simp only [Act.put, List.setIfInBounds_toArray, List.set_cons_zero, List.set_cons_succ])
                  (refine Takes.want ?_ (by rfl) (fun w' hw' => ?_) ?_; rotate_left; (focus ((try dsimp only at hw'); go_simp; (first | done | with_reducible rfl))); try simp only [Act.put, List.setIfInBounds_toArray, List.set_cons_zero, List.set_cons_succ])
                  (refine Takes.want ?_ (by rfl) (fun w' hw' => ?_) ?_; rotate_left; (focus ((try dsimp only at hw'); go_simp; (first | done | with_reducible rfl))); try simp only [Act.put, List.setIfInBounds_toArray, List.set_cons_zero, List.set_cons_succ])
                  (refine Takes.want ?_ (by rfl) (fun w' hw' => ?_) ?_; rotate_left; (focus ((try dsimp only at hw'); go_simp; (first | done | with_reducible rfl))); try simp only [Act.put, List.setIfInBounds_toArray, List.set_cons_zero, List.set_cons_succ])
                  (refine Takes.want ?_ (by rfl) (fun w' hw' => ?_) ?_; rotate_left; (focus ((try dsimp only at hw'); go_simp; (first | done | with_reducible rfl))); try simp only [Act.put, List.setIfInBounds_toArray, List.set_cons_zero, List.set_cons_succ])
                  (refine Takes.want ?_ (by rfl) (fun w' hw' => ?_) ?_; rotate_left; (focus ((try dsimp only at hw'); go_simp; (first | done | with_reducible rfl))); try simp only [Act.put, List.setIfInBounds_toArray, List.set_cons_zero, List.set_cons_succ])
                  (refine Takes.want ?_ (by rfl) (fun w' hw' => ?_) ?_; rotate_left; (focus ((try dsimp only at hw'); go_simp; (first | done | with_reducible rfl))); try simp only [Act.put, List.setIfInBounds_toArray, List.set_cons_zero, List.set_cons_succ])
                  (refine Takes.want ?_ (by rfl) (fun w' hw' => ?_) ?_; rotate_left; (focus ((try dsimp only at hw'); go_simp; (first | done | with_reducible rfl))); try simp only [Act.put, List.setIfInBounds_toArray, List.set_cons_zero, List.set_cons_succ])
                  (refine Takes.want ?_ (by rfl) (fun w' hw' => ?_) ?_; rotate_left; (focus ((try dsimp only at hw'); go_simp; (first | done | with_reducible rfl))); try simp only [Act.put, List.setIfInBounds_toArray, List.set_cons_zero, List.set_cons_succ])
                  (refine Takes.want ?_ (by rfl) (fun w' hw' => ?_) ?_; rotate_left; (focus ((try dsimp only at hw'); go_simp; (first | done | with_reducible rfl))); try simp only [Act.put, List.setIfInBounds_toArray, List.set_cons_zero, List.set_cons_succ])
                  exact Takes.done
                refine wpAnyH_one 23 (fuel := 3) (by kernel_rfl) (by rfl) (fun K hK => ?_)
                simp only [pick_lit, List.filterMap_cons, List.filterMap_nil, List.getElem?_cons_zero, List.getElem?_cons_succ, AtOps]
                go_simp
                (go_at_call 15; (first | with_reducible refine (floor_v low2 A2 n2 c2 rs2 _ HR.out (by first | with_reducible exact HSM.out.t1.sl | with_reducible exact HSM.out.drew.t1.sl) (by omega)).mono ?_ | with_reducible refine (floor_v low A nr c rs _ HR0.out (by first | with_reducible exact HSM.out.s.t0.sl | with_reducible exact HSM.out.drew.s.t0.sl) (by omega)).mono ?_); rintro e wn ⟨rfl, hbn⟩; have HSX : Hid (TwS w g g2 low rs A nr c low2 rs2 A2 n2 c2 (.slice Av t.length cv) t wn) := TwS.next (by first | with_reducible exact HSM.out | with_reducible exact HSM.out.drew) hbn; clear HSM; have HSM := Lib.hid HSX.out; clear HSX; clear hk0 hk1 hk2 hk3; obtain ⟨hk0, hk1, hk2, hk3⟩ := TwS.cells HSM.out; clear hbn)
                refine hK.out _ _ ?_ (fun hHeld => ?_)
                focus (first | with_reducible exact TwS.cells HSM.out | with_reducible exact TwS.cells HSM.out.drew)
                clear hK K
                try simp only [Act.put, List.setIfInBounds_toArray, List.set_cons_zero, List.set_cons_succ]
                refine wpAnyH_one 25 (fuel := 2) (by kernel_rfl) (by rfl) (fun K hK => ?_)
                simp only [pick_lit, List.filterMap_cons, List.filterMap_nil, List.getElem?_cons_zero, List.getElem?_cons_succ, AtOps]
                go_simp
                (go_at_call 15; (first | with_reducible refine (floor_v low2 A2 n2 c2 rs2 _ HR.out (by first | with_reducible exact HSM.out.t1.sl | with_reducible exact HSM.out.drew.t1.sl) (by omega)).mono ?_ | with_reducible refine (floor_v low A nr c rs _ HR0.out (by first | with_reducible exact HSM.out.s.t0.sl | with_reducible exact HSM.out.drew.s.t0.sl) (by omega)).mono ?_); rintro e wn ⟨rfl, hbn⟩; have HSX : Hid (TwS w g g2 low rs A nr c low2 rs2 A2 n2 c2 (.slice Av t.length cv) t wn) := TwS.next (by first | with_reducible exact HSM.out | with_reducible exact HSM.out.drew) hbn; clear HSM; have HSM := Lib.hid HSX.out; clear HSX; clear hk0 hk1 hk2 hk3; obtain ⟨hk0, hk1, hk2, hk3⟩ := TwS.cells HSM.out; clear hbn)
                refine hK.out _ _ ?_ (fun hHeld => ?_)
                focus (first | with_reducible exact TwS.cells HSM.out | with_reducible exact TwS.cells HSM.out.drew)
                clear hK K
                try simp only [Act.put, List.setIfInBounds_toArray, List.set_cons_zero, List.set_cons_succ]
                refine wpAnyH_takes (by kernel_rfl) (fun d _ _ _ _ h => by cases d <;> exact h) [26, 27] 0 _ _ _ ?_ _ (by rfl) (by kernel_rfl) ?_ (by assumption) ?_
                rotate_left
                focus
                  simp only [pick_lit, List.filterMap_cons, List.filterMap_nil, List.getElem?_cons_zero, List.getElem?_cons_succ]
                  (refine Takes.want ?_ (by rfl) (fun w' hw' => ?_) ?_; rotate_left; (focus ((try dsimp only at hw'); go_simp; (first | done | with_reducible rfl))); try simp only [Act.put, List.setIfInBounds_toArray, List.set_cons_zero, List.set_cons_succ])
                  (refine Takes.want ?_ (by rfl) (fun w' hw' => ?_) ?_; rotate_left; (focus ((try dsimp only at hw'); go_simp; (first | done | with_reducible rfl))); try simp only [Act.put, List.setIfInBounds_toArray, List.set_cons_zero, List.set_cons_succ])
                  exact Takes.done
                refine wpAnyH_done (by kernel_rfl) ?_ _
                go_wp2_with fail
                go_meet
                exact ⟨rfl, HSM.out⟩
              ·
                refine wp_region_held_drew (S := (fun w' => w'.cell? ⟨g, 0, none⟩ = some (.int .i64 low) ∧ w'.cell? ⟨g, 1, none⟩ = some (.slice A nr c) ∧ w'.cell? ⟨g2, 0, none⟩ = some (.int .i64 low2) ∧ w'.cell? ⟨g2, 1, none⟩ = some (.slice A2 n2 c2))) (by kernel_rfl) ?_ (fun hHeld => ?_)
                focus (first | with_reducible exact TwS.cells HSM.out | with_reducible exact TwS.cells HSM.out.drew)
                refine wpAnyH_takes (by kernel_rfl) (fun d _ _ _ _ h => by cases d <;> exact h) [0, 1, 2, 3, 4, 5, 6, 7, 8, 9] 18 _ _ _ ?_ _ (by rfl) (by kernel_rfl) ?_ (by assumption) ?_
                rotate_left
                focus
                  simp only [pick_lit, List.filterMap_cons, List.filterMap_nil, List.getElem?_cons_zero, List.getElem?_cons_succ]
                  (refine Takes.want ?_ (by rfl) (fun w' hw' => ?_) ?_; rotate_left; (focus ((try dsimp only at hw'); go_simp; (first | done | with_reducible rfl))); try simp only [Act.put, List.setIfInBounds_toArray, List.set_cons_zero, List.set_cons_succ])
                  (refine Takes.want ?_ (by rfl) (fun w' hw' => ?_) ?_; rotate_left; (focus ((try dsimp only at hw'); go_simp; (first | done | with_reducible rfl))); try simp only [Act.put, List.setIfInBounds_toArray, List.set_cons_zero, List.set_cons_succ])
                  (refine Takes.want ?_ (by rfl) (fun w' hw' => ?_) ?_; rotate_left; (focus ((try dsimp only at hw'); go_simp; (first | done | with_reducible rfl))); try simp only [Act.put, List.setIfInBounds_toArray, List.set_cons_zero, List.set_cons_succ])
                  (refine Takes.skip (by rfl) ?_; try simp only [Act.put, List.setIfInBounds_toArray, List.set_cons_zero, List.set_cons_succ])
                  (refine Takes.skip (by rfl) ?_; try simp only [Act.put, List.setIfInBounds_toArray, List.set_cons_zero, List.set_cons_succ])
                  (refine Takes.skip (by rfl) ?_; try simp only [Act.put, List.setIfInBounds_toArray, List.set_cons_zero, List.set_cons_succ])
                  (refine Takes.skip (by rfl) ?_; try simp only [Act.put, List.setIfInBounds_toArray, List.set_cons_zero, List.set_cons_succ])
                  (refine Takes.want ?_ (by rfl) (fun w' hw' => ?_) ?_; rotate_left; (focus ((try dsimp only at hw'); go_simp; (first | done | with_reducible rfl))); try simp only [Act.put, List.setIfInBounds_toArray, List.set_cons_zero, List.set_cons_succ])
                  (refine Takes.want ?_ (by rfl) (fun w' hw' => ?_) ?_; rotate_left; (focus ((try dsimp only at hw'); go_simp; (first | done | with_reducible rfl))); try simp only [Act.put, List.setIfInBounds_toArray, List.set_cons_zero, List.set_cons_succ])
                  (refine Takes.want ?_ (by rfl) (fun w' hw' => ?_) ?_; rotate_left; (focus ((try dsimp only at hw'); go_simp; (first | done | with_reducible rfl))); try simp only [Act.put, List.setIfInBounds_toArray, List.set_cons_zero, List.set_cons_succ])
                  exact Takes.done
                refine wpAnyH_one 10 (fuel := 17) (by kernel_rfl) (by rfl) (fun K hK => ?_)
                simp only [pick_lit, List.filterMap_cons, List.filterMap_nil, List.getElem?_cons_zero, List.getElem?_cons_succ, AtOps]
                go_simp
                (go_at_call 12; (with_reducible refine (right_v low2 A2 n2 c2 rs2 _ true HR.out (by first | with_reducible exact HSM.out.t1.sl | with_reducible exact HSM.out.drew.t1.sl) (by omega)).mono ?_); rintro e wn ⟨rfl, hbn⟩; have HSX : Hid (TwS w g g2 low rs A nr c low2 rs2 A2 n2 c2 (.slice Av t.length cv) t wn) := TwS.next (by first | with_reducible exact HSM.out | with_reducible exact HSM.out.drew) hbn; clear HSM; have HSM := Lib.hid HSX.out; clear HSX; clear hk0 hk1 hk2 hk3; obtain ⟨hk0, hk1, hk2, hk3⟩ := TwS.cells HSM.out; clear hbn)
                refine hK.out _ _ ?_ (fun hHeld => ?_)
                focus (first | with_reducible exact TwS.cells HSM.out | with_reducible exact TwS.cells HSM.out.drew)
                clear hK K
                try simp only [Act.put, List.setIfInBounds_toArray, List.set_cons_zero, List.set_cons_succ]
                refine wpAnyH_takes (by kernel_rfl) (fun d _ _ _ _ h => by cases d <;> exact h) [11, 12, 13, 14, 15, 16, 17, 18, 19, 20, 21, 22, 24] 4 _ _ _ ?_ _ (by rfl) (by kernel_rfl) ?_ (by assumption) ?_
                rotate_left
                focus
                  simp only [pick_lit, List.filterMap_cons, List.filterMap_nil, List.getElem?_cons_zero, List.getElem?_cons_succ]
                  (refine Takes.want ?_ (by rfl) (fun w' hw' => ?_) ?_; rotate_left; (focus ((try dsimp only at hw'); go_simp; (first | done | with_reducible rfl))); try simp only [Act.put, List.setIfInBounds_toArray, List.set_cons_zero, List.set_cons_succ])
                  (refine Takes.want ?_ (by rfl) (fun w' hw' => ?_) ?_; rotate_left; (focus ((try dsimp only at hw'); go_simp; (first | done | with_reducible rfl))); try simp only [Act.put, List.setIfInBounds_toArray, List.set_cons_zero, List.set_cons_succ])
                  (refine Takes.want ?_ (by rfl) (fun w' hw' => ?_) ?_; rotate_left; (focus ((try dsimp only at hw'); go_simp; (first | done | with_reducible rfl))); try simp only [Act.put, List.setIfInBounds_toArray, List.set_cons_zero, List.set_cons_succ])
                  (refine Takes.want ?_ (by rfl) (fun w' hw' => ?_) ?_; rotate_left; (focus ((try dsimp only at hw'); go_simp; (first | done | with_reducible rfl))); try simp only [Act.put, List.setIfInBounds_toArray, List.set_cons_zero, List.set_cons_succ])
                  (refine Takes.want ?_ (by rfl) (fun w' hw' => ?_) ?_; rotate_left; (focus ((try dsimp only at hw'); go_simp; (first | done | with_reducible rfl))); try simp only [Act.put, List.setIfInBounds_toArray, List.set_cons_zero, List.set_cons_succ])
                  (refine Takes.want ?_ (by rfl) (fun w' hw' => ?_) ?_; rotate_left; (focus ((try dsimp only at hw'); go_simp; (first | done | with_reducible rfl))); try simp only [Act.put, List.setIfInBounds_toArray, List.set_cons_zero, List.set_cons_succ])
                  (refine Takes.want ?_ (by rfl) (fun w' hw' => ?_) ?_; rotate_left; (focus ((try dsimp only at hw'); go_simp; (first | done | with_reducible rfl))); try simp only [Act.put, List.setIfInBounds_toArray, List.set_cons_zero, List.set_cons_succ])
                  (refine Takes.want ?_ (by rfl) (fun w' hw' => ?_) ?_; rotate_left; (focus ((try dsimp only at hw'); go_simp; (first | done | with_reducible rfl))); try simp only [Act.put, List.setIfInBounds_toArray, List.set_cons_zero, List.set_cons_succ])
                  (refine Takes.want ?_ (by rfl) (fun w' hw' => ?_) ?_; rotate_left; (focus ((try dsimp only at hw'); go_simp; (first | done | with_reducible rfl))); try simp only [Act.put, List.setIfInBounds_toArray, List.set_cons_zero, List.set_cons_succ])
                  (refine Takes.want ?_ (by rfl) (fun w' hw' => ?_) ?_; rotate_left; (focus ((try dsimp only at hw'); go_simp; (first | done | with_reducible rfl))); try simp only [Act.put, List.setIfInBounds_toArray, List.set_cons_zero, List.set_cons_succ])
                  (refine Takes.want ?_ (by rfl) (fun w' hw' => ?_) ?_; rotate_left; (focus ((try dsimp only at hw'); go_simp; (first | done | with_reducible rfl))); try simp only [Act.put, List.setIfInBounds_toArray, List.set_cons_zero, List.set_cons_succ])
                  (refine Takes.want ?_ (by rfl) (fun w' hw' => ?_) ?_; rotate_left; (focus ((try dsimp only at hw'); go_simp; (first | done | with_reducible rfl))); try simp only [Act.put, List.setIfInBounds_toArray, List.set_cons_zero, List.set_cons_succ])
                  (refine Takes.want ?_ (by rfl) (fun w' hw' => ?_) ?_; rotate_left; (focus ((try dsimp only at hw'); go_simp; (first | done | with_reducible rfl))); try simp only [Act.put, List.setIfInBounds_toArray, List.set_cons_zero, List.set_cons_succ])
                  exact Takes.done
                refine wpAnyH_one 23 (fuel := 3) (by kernel_rfl) (by rfl) (fun K hK => ?_)
                simp only [pick_lit, List.filterMap_cons, List.filterMap_nil, List.getElem?_cons_zero, List.getElem?_cons_succ, AtOps]
                go_simp
                (go_at_call 15; (first | with_reducible refine (floor_v low2 A2 n2 c2 rs2 _ HR.out (by first | with_reducible exact HSM.out.t1.sl | with_reducible exact HSM.out.drew.t1.sl) (by omega)).mono ?_ | with_reducible refine (floor_v low A nr c rs _ HR0.out (by first | with_reducible exact HSM.out.s.t0.sl | with_reducible exact HSM.out.drew.s.t0.sl) (by omega)).mono ?_); rintro e wn ⟨rfl, hbn⟩; have HSX : Hid (TwS w g g2 low rs A nr c low2 rs2 A2 n2 c2 (.slice Av t.length cv) t wn) := TwS.next (by first | with_reducible exact HSM.out | with_reducible exact HSM.out.drew) hbn; clear HSM; have HSM := Lib.hid HSX.out; clear HSX; clear hk0 hk1 hk2 hk3; obtain ⟨hk0, hk1, hk2, hk3⟩ := TwS.cells HSM.out; clear hbn)
                refine hK.out _ _ ?_ (fun hHeld => ?_)
                focus (first | with_reducible exact TwS.cells HSM.out | with_reducible exact TwS.cells HSM.out.drew)
                clear hK K
                try simp only [Act.put, List.setIfInBounds_toArray, List.set_cons_zero, List.set_cons_succ]
                refine wpAnyH_one 25 (fuel := 2) (by kernel_rfl) (by rfl) (fun K hK => ?_)
                simp only [pick_lit, List.filterMap_cons, List.filterMap_nil, List.getElem?_cons_zero, List.getElem?_cons_succ, AtOps]
                go_simp
                (go_at_call 15; (first | with_reducible refine (floor_v low2 A2 n2 c2 rs2 _ HR.out (by first | with_reducible exact HSM.out.t1.sl | with_reducible exact HSM.out.drew.t1.sl) (by omega)).mono ?_ | with_reducible refine (floor_v low A nr c rs _ HR0.out (by first | with_reducible exact HSM.out.s.t0.sl | with_reducible exact HSM.out.drew.s.t0.sl) (by omega)).mono ?_); rintro e wn ⟨rfl, hbn⟩; have HSX : Hid (TwS w g g2 low rs A nr c low2 rs2 A2 n2 c2 (.slice Av t.length cv) t wn) := TwS.next (by first | with_reducible exact HSM.out | with_reducible exact HSM.out.drew) hbn; clear HSM; have HSM := Lib.hid HSX.out; clear HSX; clear hk0 hk1 hk2 hk3; obtain ⟨hk0, hk1, hk2, hk3⟩ := TwS.cells HSM.out; clear hbn)
                refine hK.out _ _ ?_ (fun hHeld => ?_)
                focus (first | with_reducible exact TwS.cells HSM.out | with_reducible exact TwS.cells HSM.out.drew)
                clear hK K
                try simp only [Act.put, List.setIfInBounds_toArray, List.set_cons_zero, List.set_cons_succ]
                refine wpAnyH_takes (by kernel_rfl) (fun d _ _ _ _ h => by cases d <;> exact h) [26, 27] 0 _ _ _ ?_ _ (by rfl) (by kernel_rfl) ?_ (by assumption) ?_
                rotate_left
                focus
                  simp only [pick_lit, List.filterMap_cons, List.filterMap_nil, List.getElem?_cons_zero, List.getElem?_cons_succ]
                  (refine Takes.want ?_ (by rfl) (fun w' hw' => ?_) ?_; rotate_left; (focus ((try dsimp only at hw'); go_simp; (first | done | with_reducible rfl))); try simp only [Act.put, List.setIfInBounds_toArray, List.set_cons_zero, List.set_cons_succ])
                  (refine Takes.want ?_ (by rfl) (fun w' hw' => ?_) ?_; rotate_left; (focus ((try dsimp only at hw'); go_simp; (first | done | with_reducible rfl))); try simp only [Act.put, List.setIfInBounds_toArray, List.set_cons_zero, List.set_cons_succ])
                  exact Takes.done
                refine wpAnyH_done (by kernel_rfl) ?_ _
                go_wp2_with fail
                go_meet
                exact ⟨rfl, HSM.out⟩
            case rest =>
              obtain ⟨rfl, hst⟩ := hcut
              clear HSM
              have HSM := Lib.hid hst
              clear hst
              have hcell := u16_at HS.out HSM.out.s.bel HZ.out
              go_upto_if 105 with fail
              have HNX : Hid (l.take (k + 1) = l.take k ++ [z]) := by
                show _ = _
                rw [List.take_add_one, HZ.out]
                rfl
              have htl1 : t.length ≤ 80 := by omega
              go_cut [8] (fun tv W => TkNx w g g2 low rs A nr c low2 rs2 A2 n2 c2 l k tv W)
              case first =>
                cases ok
                · go_wp2_with fail
                  go_meet
                  exact ⟨t, HSM.out, fun x hx => by rw [HNX.out]; exact List.mem_append_left _ (HTK.out x hx), by omega⟩
                · have hbz : g + 1 ≤ wc.heap.size := by have := HSM.out.s.t0.lt; omega
                  go_wp2_with (at_builtin; refine wpList_append_lies _ rfl _ _ 37 rfl (g + 1) 38 i0 (.int .u16 0) 1 2 Try.underlying37 hi0 hz0 hz1 hz2 rfl (by decide) _ t.length (t.map u16C) rfl (HSM.out.s.own.alloc _) ⟨wc.heap.size, 0, none⟩ 1 1 [.int .u16 z] rfl rfl (World.news_of_block (cs := #[.int .u16 z]) (t := 38) (fr := (0, 0)) (heap_alloc_new wc _)) (by simp [Value.oneCell']) (by decide) (by unfold maxLen; omega) (by omega) (by simp; omega) (wc.heap.size + 1) (by simp) ?_; intro gg cap w2 hown1 hgrow hat hlt2; have HN := Lib.hid ((HSM.out.next (below_alloc wc (.cells #[.int .u16 z] 38))).app (x := z) rfl hgrow hown1 (hat.imp id (fun h => by rw [h]; simp))); clear hown1 hgrow hat hlt2)
                  go_meet
                  exact ⟨t ++ [z], HN.out, fun x hx => by rw [HNX.out]; rcases List.mem_append.1 hx with h | h; exact List.mem_append_left _ (HTK.out x h); exact List.mem_append_right _ h, by simp; omega⟩
              case rest =>
                obtain ⟨t', hst, htk', htl'⟩ := hcut
                clear HSM hcell
                obtain ⟨v8, rfl⟩ : ∃ x : Value, x = u8 := ⟨_, rfl⟩
                obtain ⟨gk0, rfl⟩ : ∃ x : Nat, x = gk := ⟨_, rfl⟩
                have h0 := hst.t1.c0
                have h01 := hst.t1.c1
                have hf0 := hst.s.t0.f 0
                have hf1 := hst.s.t0.f 1
                have h1 := hst.s.t0.c0
                have h11 := hst.s.t0.c1
                have HX := Lib.hid hst.store
                have HTK' := Lib.hid htk'
                have HR : Hid (rightB low2 rs2 = true) := HONE.out.inv.right
                have HFL : Hid (hasB low2 rs2 low2 = false) := HONE.out.flo
                have hkl : k + 1 ≤ 80 := by omega
                clear hst htk'
                go_wp2_with fail
                clear h0 h01 hf0 hf1 h1 h11
                go_loopg [12] (k + 1) (fun q i W => ∃ j : Nat, j + q = k + 1 ∧ i = .int .i64 j ∧ TkS w g low2 rs2 A2 n2 c2 v8 t' W)
                case atStart => exact ⟨0, by omega, rfl, HX.out⟩
                case round =>
                obtain ⟨j, hj, rfl, hs⟩ := hrel
                have HSM := Lib.hid hs
                clear hs HX
                by_cases hjk : j ≤ k
                · obtain ⟨zj, hzj⟩ : ∃ zj, l[j]? = some zj := ⟨_, List.getElem?_eq_getElem (by rw [HL.out]; omega)⟩
                  have hzb2 := HV.out zj (List.mem_of_getElem? hzj)
                  have hwj : IntKind.i64.wrap zj = zj := IntWalk.i64_in zj (by omega)
                  have HHJ : Hid (hasB low2 rs2 zj = true) := by
                    show _ = _
                    rw [has_right HR.out]
                    exact HONE.out.inv.seen zj (by rw [List.mem_take_iff_getElem]; obtain ⟨h1, h2⟩ := List.getElem?_eq_some_iff.1 hzj; exact ⟨j, by omega, h2⟩)
                  have HZJ := Lib.hid hzj
                  clear hzj
                  have hjn : j < n := by omega
                  obtain ⟨hk0, hk1, hk2⟩ := TkS.all HSM.out HS.out HZJ.out
                  go_upto_region 21 with fail
                  refine wp_region_held_drew (S := (fun w' => w'.cell? ⟨g, 0, none⟩ = some (.int .i64 low2) ∧ w'.cell? ⟨g, 1, none⟩ = some (.slice A2 n2 c2) ∧ w'.cell? ⟨bk, o + j, none⟩ = some (.int .u16 zj))) (by kernel_rfl) ?_ (fun hHeld => ?_)
                  focus (first | with_reducible exact TkS.all HSM.out HS.out HZJ.out | with_reducible exact TkS.all HSM.out.drew HS.out HZJ.out)
                  refine wpAnyH_takes (by kernel_rfl) (fun d _ _ _ _ h => by cases d <;> exact h) [0, 1, 2, 3, 4, 5] 2 _ _ _ ?_ _ (by rfl) (by kernel_rfl) ?_ (by assumption) ?_
                  rotate_left
                  focus
                    simp only [pick_lit, List.filterMap_cons, List.filterMap_nil, List.getElem?_cons_zero, List.getElem?_cons_succ]
                    (refine Takes.want ?_ (by rfl) (fun w' hw' => ?_) ?_; rotate_left; (focus ((try dsimp only at hw'); go_simp; (first | done | with_reducible rfl))); try simp only [Act.put, List.setIfInBounds_toArray, List.set_cons_zero, List.set_cons_succ])
                    (refine Takes.want ?_ (by rfl) (fun w' hw' => ?_) ?_; rotate_left; (focus ((try dsimp only at hw'); go_simp; (first | done | with_reducible rfl))); try simp only [Act.put, List.setIfInBounds_toArray, List.set_cons_zero, List.set_cons_succ])
                    (refine Takes.want ?_ (by rfl) (fun w' hw' => ?_) ?_; rotate_left; (focus ((try dsimp only at hw'); go_simp; (first | done | with_reducible rfl))); try simp only [Act.put, List.setIfInBounds_toArray, List.set_cons_zero, List.set_cons_succ])
                    (refine Takes.want ?_ (by rfl) (fun w' hw' => ?_) ?_; rotate_left; (focus ((try dsimp only at hw'); go_simp; (first | done | with_reducible rfl))); try simp only [Act.put, List.setIfInBounds_toArray, List.set_cons_zero, List.set_cons_succ])
                    (refine Takes.want ?_ (by rfl) (fun w' hw' => ?_) ?_; rotate_left; (focus ((try dsimp only at hw'); go_simp; (first | done | with_reducible rfl))); try simp only [Act.put, List.setIfInBounds_toArray, List.set_cons_zero, List.set_cons_succ])
                    (refine Takes.want ?_ (by rfl) (fun w' hw' => ?_) ?_; rotate_left; (focus ((try dsimp only at hw'); go_simp; (first | done | with_reducible rfl))); try simp only [Act.put, List.setIfInBounds_toArray, List.set_cons_zero, List.set_cons_succ])
                    exact Takes.done
                  refine wpAnyH_one 6 (fuel := 1) (by kernel_rfl) (by rfl) (fun K hK => ?_)
                  simp only [pick_lit, List.filterMap_cons, List.filterMap_nil, List.getElem?_cons_zero, List.getElem?_cons_succ, AtOps]
                  go_simp
                  (go_at_call 13; (with_reducible refine (has_v low2 zj A2 n2 c2 rs2 _ true HHJ.out (by first | with_reducible exact HSM.out.t0.sl | with_reducible exact HSM.out.drew.t0.sl) (by omega)).mono ?_); rintro e wn ⟨rfl, hbn⟩; have HSX : Hid (TkS w g low2 rs2 A2 n2 c2 v8 t' wn) := TkS.next (by first | with_reducible exact HSM.out | with_reducible exact HSM.out.drew) hbn; clear HSM; have HSM := Lib.hid HSX.out; clear HSX; clear hk0 hk1 hk2; obtain ⟨hk0, hk1, hk2⟩ := TkS.all HSM.out HS.out HZJ.out; clear hbn)
                  refine hK.out _ _ ?_ (fun hHeld => ?_)
                  focus (first | with_reducible exact TkS.all HSM.out HS.out HZJ.out | with_reducible exact TkS.all HSM.out.drew HS.out HZJ.out)
                  clear hK K
                  try simp only [Act.put, List.setIfInBounds_toArray, List.set_cons_zero, List.set_cons_succ]
                  refine wpAnyH_takes (by kernel_rfl) (fun d _ _ _ _ h => by cases d <;> exact h) [7] 0 _ _ _ ?_ _ (by rfl) (by kernel_rfl) ?_ (by assumption) ?_
                  rotate_left
                  focus
                    simp only [pick_lit, List.filterMap_cons, List.filterMap_nil, List.getElem?_cons_zero, List.getElem?_cons_succ]
                    (refine Takes.want ?_ (by rfl) (fun w' hw' => ?_) ?_; rotate_left; (focus ((try dsimp only at hw'); go_simp; (first | done | with_reducible rfl))); try simp only [Act.put, List.setIfInBounds_toArray, List.set_cons_zero, List.set_cons_succ])
                    exact Takes.done
                  refine wpAnyH_done (by kernel_rfl) ?_ _
                  go_wp2_with fail
                  go_roundg (gk - 1)
                  case measure => omega
                  exact ⟨j + 1, by omega, by rw [Int.natCast_add]; rfl, HSM.out⟩
                · obtain ⟨hk0, hk1⟩ := TkS.cells HSM.out
                  go_upto_region 23 with fail
                  refine wp_region_held_drew (S := (fun w' => w'.cell? ⟨g, 0, none⟩ = some (.int .i64 low2) ∧ w'.cell? ⟨g, 1, none⟩ = some (.slice A2 n2 c2))) (by kernel_rfl) ?_ (fun hHeld => ?_)
                  focus (first | with_reducible exact TkS.cells HSM.out | with_reducible exact TkS.cells HSM.out.drew)
                  refine wpAnyH_takes (by kernel_rfl) (fun d _ _ _ _ h => by cases d <;> exact h) [0, 1] 2 _ _ _ ?_ _ (by rfl) (by kernel_rfl) ?_ (by assumption) ?_
                  rotate_left
                  focus
                    simp only [pick_lit, List.filterMap_cons, List.filterMap_nil, List.getElem?_cons_zero, List.getElem?_cons_succ]
                    (refine Takes.want ?_ (by rfl) (fun w' hw' => ?_) ?_; rotate_left; (focus ((try dsimp only at hw'); go_simp; (first | done | with_reducible rfl))); try simp only [Act.put, List.setIfInBounds_toArray, List.set_cons_zero, List.set_cons_succ])
                    (refine Takes.want ?_ (by rfl) (fun w' hw' => ?_) ?_; rotate_left; (focus ((try dsimp only at hw'); go_simp; (first | done | with_reducible rfl))); try simp only [Act.put, List.setIfInBounds_toArray, List.set_cons_zero, List.set_cons_succ])
                    exact Takes.done
                  refine wpAnyH_one 2 (fuel := 1) (by kernel_rfl) (by rfl) (fun K hK => ?_)
                  simp only [pick_lit, List.filterMap_cons, List.filterMap_nil, List.getElem?_cons_zero, List.getElem?_cons_succ, AtOps]
                  go_simp
                  (go_at_call 15; (with_reducible refine (floor_v low2 A2 n2 c2 rs2 _ HR.out (by first | with_reducible exact HSM.out.t0.sl | with_reducible exact HSM.out.drew.t0.sl) (by omega)).mono ?_); rintro e wn ⟨rfl, hbn⟩; have HSX : Hid (TkS w g low2 rs2 A2 n2 c2 v8 t' wn) := TkS.next (by first | with_reducible exact HSM.out | with_reducible exact HSM.out.drew) hbn; clear HSM; have HSM := Lib.hid HSX.out; clear HSX; clear hk0 hk1; obtain ⟨hk0, hk1⟩ := TkS.cells HSM.out; clear hbn)
                  refine hK.out _ _ ?_ (fun hHeld => ?_)
                  focus (first | with_reducible exact TkS.cells HSM.out | with_reducible exact TkS.cells HSM.out.drew)
                  clear hK K
                  try simp only [Act.put, List.setIfInBounds_toArray, List.set_cons_zero, List.set_cons_succ]
                  refine wpAnyH_one 3 (fuel := 0) (by kernel_rfl) (by rfl) (fun K hK => ?_)
                  simp only [pick_lit, List.filterMap_cons, List.filterMap_nil, List.getElem?_cons_zero, List.getElem?_cons_succ, AtOps]
                  go_simp
                  (go_at_call 13; (with_reducible refine (has_v low2 low2 A2 n2 c2 rs2 _ false HFL.out (by first | with_reducible exact HSM.out.t0.sl | with_reducible exact HSM.out.drew.t0.sl) (by omega)).mono ?_); rintro e wn ⟨rfl, hbn⟩; have HSX : Hid (TkS w g low2 rs2 A2 n2 c2 v8 t' wn) := TkS.next (by first | with_reducible exact HSM.out | with_reducible exact HSM.out.drew) hbn; clear HSM; have HSM := Lib.hid HSX.out; clear HSX; clear hk0 hk1; obtain ⟨hk0, hk1⟩ := TkS.cells HSM.out; clear hbn)
                  refine hK.out _ _ ?_ (fun hHeld => ?_)
                  focus (first | with_reducible exact TkS.cells HSM.out | with_reducible exact TkS.cells HSM.out.drew)
                  clear hK K
                  try simp only [Act.put, List.setIfInBounds_toArray, List.set_cons_zero, List.set_cons_succ]
                  refine wpAnyH_done (by kernel_rfl) ?_ _
                  go_wp2_with fail
                  go_roundg (gk0 - 1)
                  case measure => omega
                  exact ⟨k + 1, by omega, by rw [Int.natCast_add]; rfl, low2, rs2, A2, c2, v8, t', by rw [HN2.out]; exact HSM.out, HONE.out.inv, rfl, HTK'.out, by omega⟩
      · go_wp2_with fail
        have hb := hst.bel
        exact bodyPost_ret (v := .bool true) (by simp [results, Try.results4]) rfl ⟨rfl, hb⟩
end Go.Proofs.Ytikfbgbfjipceaa
