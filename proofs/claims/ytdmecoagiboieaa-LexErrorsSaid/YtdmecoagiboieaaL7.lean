/-
  The walk of LexErrors: for every string the law returns true.
-/
import Derived.Test.YtdmecoagiboieaaC1
import Derived.Test.YtdmecoagiboieaaPd
namespace Go.Proofs.Ytdmecoagiboieaa
open Go.RowKit
theorem appL (a b : List UInt8) : (⟨a.toArray⟩ : ByteArray) ++ ⟨b.toArray⟩ = ⟨(a ++ b).toArray⟩ := by
  apply ByteArray.ext
  simp
attribute [local go_sem] byteI extE ext0 extAny appL

def blanks (n : Nat) : List UInt8 := List.replicate n 32
def strLen : Value → Nat
  | .string s => s.size
  | _ => 0
def fillOk (n : Nat) : Prop := n = 10 ∨ n = 20 ∨ n = 40 ∨ n = 80 ∨ n = 160 ∨ n = 320 ∨ n = 640 ∨ n = 1280 ∨ n = 2560
theorem blanks_len (n : Nat) : (blanks n).length = n := by simp [blanks]
theorem blanks_app (n : Nat) : blanks n ++ blanks n = blanks (n + n) := by simp [blanks]
theorem blanks_take (n k : Nat) (h : k ≤ n) : (blanks n).take k = blanks k := by simp [blanks, List.take_replicate, Nat.min_eq_left h]

theorem fill_step {n : Nat} (h : fillOk n) (hlt : n < 2000) : fillOk (n + n) := by unfold fillOk at *; omega
theorem fill_end {n : Nat} (h : fillOk n) (hlt : ¬ n < 2000) : 2001 ≤ n := by unfold fillOk at *; omega
theorem top_full (t : List UInt8) (n : Nat) (ht : t.length ≤ 900) (hn : 2001 ≤ n) : lexTop (t ++ (blanks n).take (2001 - t.length)) = .err 0 6 := by
  rw [blanks_take _ _ (by omega)]
  unfold lexTop
  rw [if_neg (by simp [blanks_len]; omega)]
theorem top_fill (t : List UInt8) (n : Nat) (ht : t.length ≤ 900) (hn : 2001 ≤ n) : lexTop (t ++ (blanks n).take (2000 - t.length)) = lexP 0 (t ++ List.replicate (2000 - t.length) 32) := by
  rw [blanks_take _ _ (by omega)]
  unfold lexTop
  rw [if_pos (by simp [blanks_len]; omega)]
  rfl
set_option maxRecDepth 100000 in
set_option maxHeartbeats 2000000 in
theorem errors_walk (a : ByteArray) (w : World) (ha : a.size ≤ maxLen) :
    Calls Try.prog 7 #[.string a] w fun e w' => e = .returned (.bool true) ∧ Below w.heap.size w w' := by
  obtain ⟨⟨l⟩⟩ := a
  have hl : l.length ≤ 9223372036854775807 := by simpa [maxLen, ByteArray.size] using ha
  clear ha
  have ht : (l.take 900).length ≤ 900 := by simp; omega
  have HT := Lib.hid (lexTop_small _ ht)
  generalize hz : l.take 900 = t at *
  have HZ := Lib.hid hz
  clear hz
  go_enter Try.func7, Try.ntmps7
  go_wp2_with fail
  refine (small_any _).mono ?_
  rintro e w1 ⟨rfl, hb1⟩
  go_wp2_with fail
  refine (cut_any l _ hl).mono ?_
  rintro e w2 ⟨rfl, rfl⟩
  rw [HZ.out]
  go_wp2_with fail
  cases hx : lexP 0 t with
  | err p er =>
    have hcode := lexP_err_code t 0 p er hx
    have hp : p < t.length := by omega
    have hcut := lexP_cut _ t rfl 0 p er hx
    obtain ⟨⟨ts, hc1⟩, _, hc2⟩ := hcut
    have hfill := (lexP_fill (2000 - t.length) t 0).1 p er hx
    have C1 := Lib.hid ((lexTop_small (t.take p) (by simp; omega)).trans hc1)
    have C2 := Lib.hid ((lexTop_small (t.drop p) (by simp; omega)).trans (hc2 0))
    have F := Lib.hid hfill
    have HX := Lib.hid (HT.out.trans hx)
    have her := hcode.1
    clear hx hcode hc1 hc2 hfill
    refine (lex_err t p er _ HX.out (by omega)).mono ?_
    rintro e w3 ⟨rfl, hb3⟩
    go_wp2_with fail
    go_loop [8] (fun v => ∃ n : Nat, v = .string ⟨(blanks n).toArray⟩ ∧ n ≤ 2560 ∧ 10 ≤ n ∧ Hid (fillOk n)) (fun v => 3000 - strLen v)
    case atStart => exact ⟨10, rfl, by omega, by omega, Or.inl rfl⟩
    case round =>
      obtain ⟨n, rfl, hn1, hn2, hok⟩ := hrel
      have hlen := blanks_len n
      by_cases hlt : n < 2000
      · go_wp2_with fail
        exact ⟨⟨n + n, by rw [blanks_app], by have := hok.out; unfold fillOk at this; omega, by omega, fill_step hok.out hlt⟩, by simp [strLen, ByteArray.size]; omega⟩
      · have hn3 := fill_end hok.out hlt
        have T1 := Lib.hid ((top_fill t n ht hn3).trans F.out)
        have T2 := Lib.hid (top_full t n ht hn3)
        go_wp2_with fail
        refine (lex_err _ p er _ T1.out (by simp [hlen]; omega)).mono ?_
        rintro e w4 ⟨rfl, hb4⟩
        go_wp2_with fail
        refine (lex_err _ 0 6 _ T2.out (by simp [hlen]; omega)).mono ?_
        rintro e w5 ⟨rfl, hb5⟩
        rcases her with rfl | rfl | rfl
        all_goals
          go_wp2_with fail
          refine (lex_ok _ ts _ C1.out (by simp; omega)).mono ?_
          rintro e w6 ⟨A, c, rfl, hS, hb6⟩
          go_wp2_with fail
          refine (lex_err _ 0 _ _ C2.out (by simp; omega)).mono ?_
          rintro e w7 ⟨rfl, hb7⟩
          go_wp2_with fail
          go_ret
          exact ⟨rfl, bt (bt (bt (bt (bt hb1 hb3) hb4) hb5) hb6) hb7⟩
  | toks ts =>
    obtain ⟨us, rfl, _, _⟩ := lexP_shape t 0 ts hx
    obtain ⟨t', hfill⟩ := (lexP_fill (2000 - t.length) t 0).2 us _ hx
    have hul : (us ++ [t']).length = (us ++ [⟨3, [], 0, ((0 + t.length : Nat) : Int)⟩] : List Tok).length := by simp
    have F := Lib.hid hfill
    have HX := Lib.hid (HT.out.trans hx)
    clear hx hfill
    generalize hts : (us ++ [⟨3, [], 0, ((0 + t.length : Nat) : Int)⟩] : List Tok) = ts at *
    generalize hts' : us ++ [t'] = ts' at *
    have hne : ((ts'.length : Int) != (ts.length : Int)) = false := by simp [hul]
    clear hts hts' hul
    refine (lex_ok t ts _ HX.out (by omega)).mono ?_
    rintro e w3 ⟨A, c, rfl, hS, hb3⟩
    go_wp2_with fail
    go_loop [8] (fun v => ∃ n : Nat, v = .string ⟨(blanks n).toArray⟩ ∧ n ≤ 2560 ∧ 10 ≤ n ∧ Hid (fillOk n)) (fun v => 3000 - strLen v)
    case atStart => exact ⟨10, rfl, by omega, by omega, Or.inl rfl⟩
    case round =>
      obtain ⟨n, rfl, hn1, hn2, hok⟩ := hrel
      have hlen := blanks_len n
      by_cases hlt : n < 2000
      · go_wp2_with fail
        exact ⟨⟨n + n, by rw [blanks_app], by have := hok.out; unfold fillOk at this; omega, by omega, fill_step hok.out hlt⟩, by simp [strLen, ByteArray.size]; omega⟩
      · have hn3 := fill_end hok.out hlt
        have T1 := Lib.hid ((top_fill t n ht hn3).trans F.out)
        have T2 := Lib.hid (top_full t n ht hn3)
        go_wp2_with fail
        refine (lex_ok _ ts' _ T1.out (by simp [hlen]; omega)).mono ?_
        rintro e w4 ⟨A', c', rfl, hS', hb4⟩
        go_wp2_with fail
        refine (lex_err _ 0 6 _ T2.out (by simp [hlen]; omega)).mono ?_
        rintro e w5 ⟨rfl, hb5⟩
        go_wp2_with fail
        go_ret
        exact ⟨rfl, bt (bt (bt hb1 hb3) hb4) hb5⟩
end Go.Proofs.Ytdmecoagiboieaa
