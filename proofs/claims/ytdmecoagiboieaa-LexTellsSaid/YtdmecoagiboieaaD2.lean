/-
  The contract of the reference's token (layer 11).
-/
import Derived.Test.YtdmecoagiboieaaD1
import Derived.Test.YtdmecoagiboieaaA3
namespace Go.Proofs.Ytdmecoagiboieaa
open Go.RowKit
attribute [local go_sem] byteI extE ext0 extAny

/-- the token that the reference finds at an offset -/
def tokenVal (a : Nat) : Except Int Tok → Value
  | .ok t => .tuple #[tokV { t with pos := (a : Int) }, .int .i64 0]
  | .error e => .tuple #[tokV ⟨0, [], 0, 0⟩, .int .i64 e]
def upTo (p : Int → Bool) (l : List UInt8) (a k : Nat) : Prop := ∀ i (h : i < l.length), a ≤ i → i < k → p (l[i].toNat) = true
theorem upTo_span {p : Int → Bool} {l : List UInt8} {a k : Nat} (h : upTo p l a k) (hk : k ≤ l.length) (ha : a ≤ k) (hend : ∀ h : k < l.length, p (l[k].toNat) = false) : a + spanN p (l.drop a) = k := by
  have := spanN_eq p (l.drop a) (k - a) (fun j hj hjk => by
    rw [List.getElem_drop]
    exact h _ _ (by omega) (by omega)) (by simp; omega) (fun hh => by
    rw [List.getElem_drop]
    have := hend (by simp at hh; omega)
    simpa [show a + (k - a) = k by omega] using this)
  rw [this]; omega
theorem upTo_next {p : Int → Bool} {l : List UInt8} {a k : Nat} (h : upTo p l a k) (hk : k < l.length) (hp : p (l[k].toNat) = true) : upTo p l a (k + 1) := by
  intro i hi h1 h2
  rcases Nat.lt_or_ge i k with h3 | h3
  · exact h i hi h1 h3
  · obtain rfl : i = k := by omega
    exact hp
theorem upTo_start {p : Int → Bool} {l : List UInt8} {a : Nat} (ha : a < l.length) (hp : p (l[a].toNat) = true) : upTo p l a (a + 1) :=
  upTo_next (fun i _ h1 h2 => absurd h1 (by omega)) ha hp
theorem nextP_at (l : List UInt8) (a : Nat) (ha : a < l.length) : nextP (l.drop a) =
    if isLetter l[a].toNat then (if spanN isAlnum (l.drop a) ≤ 20 then .ok ⟨0, (l.drop a).take (spanN isAlnum (l.drop a)), 0, 0⟩ else .error 11)
    else if isDigit l[a].toNat then (if numOk ((l.drop a).take (spanN isDigit (l.drop a))) then .ok ⟨1, (l.drop a).take (spanN isDigit (l.drop a)), numGo 0 ((l.drop a).take (spanN isDigit (l.drop a))), 0⟩ else .error 3)
    else if l[a].toNat == 59 then .ok ⟨2, [59], 0, 0⟩ else .error 10 := by
  rw [List.drop_eq_getElem_cons ha]
  rfl
theorem take_drop_comm (l : List UInt8) (a k n : Nat) (h : a + n = k) : (l.take k).drop a = (l.drop a).take n := by
  rw [List.drop_take]; congr 1; omega

set_option maxRecDepth 100000 in
set_option maxHeartbeats 3000000 in
theorem token_any (l : List UInt8) (a : Nat) (w : World) (hl : l.length ≤ 2000) (ha : a < l.length) :
    Calls Try.prog 25 #[.string ⟨l.toArray⟩, .int .i64 a] w fun e w' => e = .returned (tokenVal a (nextP (l.drop a))) ∧ Below w.heap.size w w' := by
  have HN := Lib.hid (nextP_at l a ha)
  cases hc : isLetter (l[a].toNat)
  · have HC := Lib.hid hc
    clear hc
    cases hd : isDigit (l[a].toNat)
    · have HD := Lib.hid hd
      clear hd
      by_cases h59 : l[a].toNat = 59
      · have hres : nextP (l.drop a) = .ok ⟨2, [59], 0, 0⟩ := by rw [HN.out, HC.out, HD.out]; simp [h59]
        have HR := Lib.hid hres
        have g : ((l[a].toNat : Int) != 59) = false := by simp; omega
        clear hres h59
        go_enter Try.func25, Try.ntmps25
        go_wp2_with fail
        refine (rletter_any _ _).mono ?_
        rintro e w' ⟨rfl, rfl⟩
        rw [HC.out]
        go_wp2_with fail
        refine (rdigit_any _ _).mono ?_
        rintro e w' ⟨rfl, rfl⟩
        rw [HD.out]
        go_wp2_with fail
        exact bodyPost_ret (v := .tuple #[tokV ⟨2, [59], 0, a⟩, .int .i64 0]) (by simp [results, Try.results25, go_sem]; rfl) rfl ⟨by rw [HR.out]; rfl, (Below.refl _ _).alloc (Nat.le_refl _) _⟩
      · have hres : nextP (l.drop a) = .error 10 := by rw [HN.out, HC.out, HD.out]; simp [h59]
        have HR := Lib.hid hres
        have g : ((l[a].toNat : Int) != 59) = true := by simp; omega
        clear hres h59
        go_enter Try.func25, Try.ntmps25
        go_wp2_with fail
        refine (rletter_any _ _).mono ?_
        rintro e w' ⟨rfl, rfl⟩
        rw [HC.out]
        go_wp2_with fail
        refine (rdigit_any _ _).mono ?_
        rintro e w' ⟨rfl, rfl⟩
        rw [HD.out]
        go_wp2_with fail
        exact bodyPost_ret (v := .tuple #[tokV ⟨0, [], 0, 0⟩, .int .i64 10]) (by simp [results, Try.results25, go_sem]; rfl) rfl ⟨by rw [HR.out]; rfl, (Below.refl _ _).alloc (Nat.le_refl _) _⟩
    · have HD := Lib.hid hd
      have HS := Lib.hid (upTo_start ha hd)
      clear hd
      go_enter Try.func25, Try.ntmps25
      go_wp2_with fail
      refine (rletter_any _ _).mono ?_
      rintro e w' ⟨rfl, rfl⟩
      rw [HC.out]
      go_wp2_with fail
      refine (rdigit_any _ _).mono ?_
      rintro e w' ⟨rfl, rfl⟩
      rw [HD.out]
      go_wp2_with fail
      go_loop [6] (fun v => ∃ k : Nat, v = .int .i64 k ∧ a + 1 ≤ k ∧ k ≤ l.length ∧ Hid (upTo isDigit l a k)) (fun v => l.length - (intOf v).toNat)
      case atStart => exact ⟨a + 1, by go_num, by omega, by omega, HS⟩
      case round =>
        obtain ⟨k, rfl, hk1, hk2, hup⟩ := hrel
        have key : (∀ h : k < l.length, isDigit (l[k].toNat) = false) → Hid (a + spanN isDigit (l.drop a) = k) := fun h => upTo_span hup.out hk2 (by omega) h
        have HK := Lib.hid key
        clear key
        by_cases hlt : k < l.length
        · cases hb : isDigit (l[k].toNat)
          · have HB := Lib.hid hb
            have hsp := HK.out (fun _ => hb)
            clear hb HK
            go_wp2_with fail
            refine (rdigit_any _ _).mono ?_
            rintro e w' ⟨rfl, rfl⟩
            rw [HB.out]
            go_wp2_with fail
            refine (rnumber_any _ _ (by simp; omega)).mono ?_
            rintro e w' ⟨rfl, rfl⟩
            have hX := take_drop_comm l a k _ hsp.out
            cases hok : numOk ((l.take k).drop a)
            · have hres : nextP (l.drop a) = .error 3 := by rw [HN.out, HC.out, HD.out, ← hX, hok]; rfl
              have HR := Lib.hid hres
              clear hres hX hok
              go_wp2_with fail
              exact bodyPost_ret (v := .tuple #[tokV ⟨0, [], 0, 0⟩, .int .i64 3]) (by simp [results, Try.results25, go_sem]; rfl) rfl ⟨by rw [HR.out]; rfl, (Below.refl _ _).alloc (Nat.le_refl _) _⟩
            · have hor : numOr ((l.take k).drop a) = numGo 0 ((l.take k).drop a) := by simp [numOr, hok]
              have hres : nextP (l.drop a) = .ok ⟨1, (l.take k).drop a, numGo 0 ((l.take k).drop a), 0⟩ := by rw [HN.out, HC.out, HD.out, ← hX, hok]; rfl
              have HR := Lib.hid hres
              rw [hor]
              generalize hz : numGo 0 ((l.take k).drop a) = z at *
              have HZ := Lib.hid hz
              clear hres hX hok hor hz
              go_wp2_with fail
              exact bodyPost_ret (v := .tuple #[tokV ⟨1, (l.take k).drop a, z, a⟩, .int .i64 0]) (by simp [results, Try.results25, go_sem]; rfl) rfl ⟨by rw [HR.out]; rfl, (Below.refl _ _).alloc (Nat.le_refl _) _⟩
          · have HB := Lib.hid hb
            clear hb
            go_wp2_with fail
            refine (rdigit_any _ _).mono ?_
            rintro e w' ⟨rfl, rfl⟩
            rw [HB.out]
            go_wp2_with fail
            exact ⟨⟨k + 1, by go_num, by omega, by omega, upTo_next hup.out hlt HB.out⟩, by simp [intOf]; omega⟩
        · have hsp := HK.out (fun h => absurd h hlt)
          clear HK
          go_wp2_with fail
          refine (rnumber_any _ _ (by simp; omega)).mono ?_
          rintro e w' ⟨rfl, rfl⟩
          have hX := take_drop_comm l a k _ hsp.out
          cases hok : numOk ((l.take k).drop a)
          · have hres : nextP (l.drop a) = .error 3 := by rw [HN.out, HC.out, HD.out, ← hX, hok]; rfl
            have HR := Lib.hid hres
            clear hres hX hok
            go_wp2_with fail
            exact bodyPost_ret (v := .tuple #[tokV ⟨0, [], 0, 0⟩, .int .i64 3]) (by simp [results, Try.results25, go_sem]; rfl) rfl ⟨by rw [HR.out]; rfl, (Below.refl _ _).alloc (Nat.le_refl _) _⟩
          · have hor : numOr ((l.take k).drop a) = numGo 0 ((l.take k).drop a) := by simp [numOr, hok]
            have hres : nextP (l.drop a) = .ok ⟨1, (l.take k).drop a, numGo 0 ((l.take k).drop a), 0⟩ := by rw [HN.out, HC.out, HD.out, ← hX, hok]; rfl
            have HR := Lib.hid hres
            rw [hor]
            generalize hz : numGo 0 ((l.take k).drop a) = z at *
            have HZ := Lib.hid hz
            clear hres hX hok hor hz
            go_wp2_with fail
            exact bodyPost_ret (v := .tuple #[tokV ⟨1, (l.take k).drop a, z, a⟩, .int .i64 0]) (by simp [results, Try.results25, go_sem]; rfl) rfl ⟨by rw [HR.out]; rfl, (Below.refl _ _).alloc (Nat.le_refl _) _⟩
  · have HC := Lib.hid hc
    have HS := Lib.hid (upTo_start (p := isAlnum) ha (by simp [isAlnum, hc]))
    clear hc
    go_enter Try.func25, Try.ntmps25
    go_wp2_with fail
    refine (rletter_any _ _).mono ?_
    rintro e w' ⟨rfl, rfl⟩
    rw [HC.out]
    go_wp2_with fail
    go_loop [6] (fun v => ∃ k : Nat, v = .int .i64 k ∧ a + 1 ≤ k ∧ k ≤ l.length ∧ Hid (upTo isAlnum l a k)) (fun v => l.length - (intOf v).toNat)
    case atStart => exact ⟨a + 1, by go_num, by omega, by omega, HS⟩
    case round =>
      obtain ⟨k, rfl, hk1, hk2, hup⟩ := hrel
      have key : (∀ h : k < l.length, isAlnum (l[k].toNat) = false) → Hid (a + spanN isAlnum (l.drop a) = k) := fun h => upTo_span hup.out hk2 (by omega) h
      have HK := Lib.hid key
      clear key
      by_cases hlt : k < l.length
      · cases hb : isLetter (l[k].toNat)
        · have HB := Lib.hid hb
          cases hd : isDigit (l[k].toNat)
          · have HD := Lib.hid hd
            have hsp := HK.out (fun _ => by simp [isAlnum, hb, hd])
            clear hb hd HK
            go_wp2_with fail
            refine (rletter_any _ _).mono ?_
            rintro e w' ⟨rfl, rfl⟩
            rw [HB.out]
            go_wp2_with fail
            refine (rdigit_any _ _).mono ?_
            rintro e w' ⟨rfl, rfl⟩
            rw [HD.out]
            by_cases h20 : k - a ≤ 20
            · have hres : nextP (l.drop a) = .ok ⟨0, (l.take k).drop a, 0, 0⟩ := by rw [HN.out, HC.out, take_drop_comm l a k _ hsp.out, if_pos rfl, if_pos (by have := hsp.out; omega)]
              have HR := Lib.hid hres
              clear hres
              go_wp2_with fail
              exact bodyPost_ret (v := .tuple #[tokV ⟨0, (l.take k).drop a, 0, a⟩, .int .i64 0]) (by simp [results, Try.results25, go_sem]; rfl) rfl ⟨by rw [HR.out]; rfl, (Below.refl _ _).alloc (Nat.le_refl _) _⟩
            · have hres : nextP (l.drop a) = .error 11 := by rw [HN.out, HC.out, if_pos rfl, if_neg (by have := hsp.out; omega)]
              have HR := Lib.hid hres
              clear hres
              go_wp2_with fail
              exact bodyPost_ret (v := .tuple #[tokV ⟨0, [], 0, 0⟩, .int .i64 11]) (by simp [results, Try.results25, go_sem]; rfl) rfl ⟨by rw [HR.out]; rfl, (Below.refl _ _).alloc (Nat.le_refl _) _⟩
          · have HD := Lib.hid hd
            have HU := Lib.hid (upTo_next hup.out hlt (show isAlnum (l[k].toNat) = true by simp [isAlnum, hd]))
            clear hb hd
            go_wp2_with fail
            refine (rletter_any _ _).mono ?_
            rintro e w' ⟨rfl, rfl⟩
            rw [HB.out]
            go_wp2_with fail
            refine (rdigit_any _ _).mono ?_
            rintro e w' ⟨rfl, rfl⟩
            rw [HD.out]
            go_wp2_with fail
            exact ⟨⟨k + 1, by go_num, by omega, by omega, HU⟩, by simp [intOf]; omega⟩
        · have HB := Lib.hid hb
          have HU := Lib.hid (upTo_next hup.out hlt (show isAlnum (l[k].toNat) = true by simp [isAlnum, hb]))
          clear hb
          go_wp2_with fail
          refine (rletter_any _ _).mono ?_
          rintro e w' ⟨rfl, rfl⟩
          rw [HB.out]
          go_wp2_with fail
          exact ⟨⟨k + 1, by go_num, by omega, by omega, HU⟩, by simp [intOf]; omega⟩
      · have hsp := HK.out (fun h => absurd h hlt)
        clear HK
        by_cases h20 : k - a ≤ 20
        · have hres : nextP (l.drop a) = .ok ⟨0, (l.take k).drop a, 0, 0⟩ := by rw [HN.out, HC.out, take_drop_comm l a k _ hsp.out, if_pos rfl, if_pos (by have := hsp.out; omega)]
          have HR := Lib.hid hres
          clear hres
          go_wp2_with fail
          exact bodyPost_ret (v := .tuple #[tokV ⟨0, (l.take k).drop a, 0, a⟩, .int .i64 0]) (by simp [results, Try.results25, go_sem]; rfl) rfl ⟨by rw [HR.out]; rfl, (Below.refl _ _).alloc (Nat.le_refl _) _⟩
        · have hres : nextP (l.drop a) = .error 11 := by rw [HN.out, HC.out, if_pos rfl, if_neg (by have := hsp.out; omega)]
          have HR := Lib.hid hres
          clear hres
          go_wp2_with fail
          exact bodyPost_ret (v := .tuple #[tokV ⟨0, [], 0, 0⟩, .int .i64 11]) (by simp [results, Try.results25, go_sem]; rfl) rfl ⟨by rw [HR.out]; rfl, (Below.refl _ _).alloc (Nat.le_refl _) _⟩
end Go.Proofs.Ytdmecoagiboieaa
