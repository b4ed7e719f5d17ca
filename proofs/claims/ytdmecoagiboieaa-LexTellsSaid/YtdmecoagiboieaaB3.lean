/-
  The contract of Text (layer 11), over strings.Join's of the library.
-/
import Derived.Test.YtdmecoagiboieaaB2
import Derived.Test.YtdmecoagiboieaaShelf
namespace Go.Proofs.Ytdmecoagiboieaa
open Go.RowKit
attribute [local go_sem] byteI extE ext0 extAny

def texts (ts : List Tok) : List (List UInt8) := (ts.filter (fun t => !(t.kind == 3))).map Tok.text
def strV (x : List UInt8) : Value := .string ⟨x.toArray⟩
theorem joinP_eq : ∀ xs : List (List UInt8), joinP xs = Lib.join xs [32]
  | [] => rfl
  | [a] => by simp [joinP, Lib.join_one]
  | a :: b :: r => by
    rw [joinP, joinP_eq (b :: r), Lib.join_cons a (b :: r), Lib.join_cons b r]
    simp [Lib.joinTail]
theorem texts_snoc (ts : List Tok) (k : Nat) (t : Tok) (h : ts[k]? = some t) : texts (ts.take (k + 1)) = texts (ts.take k) ++ (if t.kind = 3 then [] else [t.text]) := by
  obtain ⟨hk, rfl⟩ := List.getElem?_eq_some_iff.1 h
  rw [List.take_succ_eq_append_getElem hk]
  simp only [texts, List.filter_append, List.map_append]
  congr 1
  by_cases h3 : ts[k].kind = 3 <;> simp [h3]
theorem info9 : (Try.prog.info? 9).map (fun i => (i.zero, i.size, i.bytes)) = some (some (.string ⟨#[]⟩), 1, 16) := by kernel_rfl
def TextRel (ts : List Tok) (w : World) (n : Nat) (v i : Value) (wr : World) : Prop :=
  ∃ k m : Nat, k ≤ n ∧ i = .int .i64 k ∧ m ≤ k ∧ m = (texts (ts.take k)).length ∧ wr.ownsRow w.heap.size 9 1 v m ((texts (ts.take k)).map strV) ∧ Below w.heap.size w wr
theorem text_app {w wr w1 : World} {v v1 : Value} {ts : List Tok} {k m n : Nat} {t : Tok} {o o' : Obj} (hown : wr.ownsRow w.heap.size 9 1 v m ((texts (ts.take k)).map strV)) (hm : m = (texts (ts.take k)).length) (hmk : m ≤ k) (hkn : k < n) (hbel : Below w.heap.size w wr)
    (hown1 : w1.ownsRow w.heap.size 9 1 v1 (m + 1) ((texts (ts.take k)).map strV ++ [strV t.text])) (hg : ((wr.alloc o).alloc o').grownBy w1 v.ownBlock) (ht : ts[k]? = some t) (h3 : t.kind ≠ 3) :
    TextRel ts w n v1 (.int .i64 (k + 1)) w1 := by
  refine ⟨k + 1, m + 1, by omega, by simp, by omega, ?_, ?_, ?_⟩
  · rw [texts_snoc ts k t ht, if_neg h3]; simp [hm]
  · rw [texts_snoc ts k t ht, if_neg h3]; simpa using hown1
  · exact ((hbel.alloc hbel.size o).alloc (by have := hbel.size; simp; omega) o').grown hg (by have := hbel.size; simp; omega) (fun k hk => (hown.lt k hk).1)
theorem text_skip {w wr : World} {v : Value} {ts : List Tok} {k m n : Nat} {t : Tok} {o : Obj} (hown : wr.ownsRow w.heap.size 9 1 v m ((texts (ts.take k)).map strV)) (hm : m = (texts (ts.take k)).length) (hmk : m ≤ k) (hkn : k < n) (hbel : Below w.heap.size w wr)
    (ht : ts[k]? = some t) (h3 : t.kind = 3) : TextRel ts w n v (.int .i64 (k + 1)) (wr.alloc o) := by
  refine ⟨k + 1, m, by omega, by simp, by omega, ?_, ?_, hbel.alloc hbel.size o⟩
  · rw [texts_snoc ts k t ht, if_pos h3]; simp [hm]
  · rw [texts_snoc ts k t ht, if_pos h3]; simpa using hown.alloc o

theorem join_own {w : World} {B m : Nat} {v : Value} {xs : List (List UInt8)} (h : w.ownsRow B 9 1 v m (xs.map strV)) (hm : m = xs.length) (hx : xs.length ≤ 1000000) (hlen : (joinP xs).length ≤ 140737488355328) :
    Calls Try.prog 31 #[v, .string ⟨#[32]⟩] w fun e w' => e = .returned (.string ⟨(joinP xs).toArray⟩) ∧ Below w.heap.size w w' := by
  subst hm
  have hdat : (xs.map (fun x => (⟨x.toArray⟩ : ByteArray))).map (·.data.toList) = xs := by simp [List.map_map, Function.comp_def]
  rcases h.2 with ⟨rfl, h0⟩ | ⟨g, cap, cur, rfl, hb, hh, hnc, hcm, hcs, ht⟩
  · have : xs = [] := List.eq_nil_of_length_eq_zero h0
    subst this
    exact (Try.strings_Join_none none 0 ⟨#[32]⟩ w).mono fun e w' ⟨he, hw⟩ => ⟨he, by rw [hw]; exact Below.refl _ _⟩
  · have key := Try.strings_Join g 0 cap (xs.map (fun x => (⟨x.toArray⟩ : ByteArray))) ⟨#[32]⟩ w ?_ (lt_of_block hh) (by simp; omega) (by simpa using hnc) (by rw [hdat, ← joinP_eq]; exact hlen)
    · rw [List.length_map] at key
      refine key.mono fun e w' ⟨he, hw⟩ => ⟨?_, hw⟩
      rw [hdat] at he
      rw [he, joinP_eq]
    · intro j x hx'
      have hc := h.cells (g := g) rfl j (.string x) (by
        rw [List.getElem?_map] at hx' ⊢
        cases hj : xs[j]? with
        | none => rw [hj] at hx'; simp at hx'
        | some y => rw [hj] at hx'; simp at hx'; subst hx'; rfl)
      have e : (⟨g, 0, none⟩ : Addr).add j = ⟨g, 0 + j, none⟩ := by
        unfold Addr.add
        by_cases hj : j = 0
        · subst hj; rfl
        · simp [hj]
      rw [e] at hc
      exact hc
set_option maxHeartbeats 1000000 in
theorem text_any (A : Option Addr) (n c : Nat) (ts : List Tok) (w : World) (ha : Sl w A n 4 (ts.flatMap tokC)) (hn : n ≤ 1000000) (hlen : (textP ts).length ≤ 140737488355328) :
    Calls Try.prog 18 #[.slice A n c] w fun e w' => e = .returned (.string ⟨(textP ts).toArray⟩) ∧ Below w.heap.size w w' := by
  obtain ⟨i0, hi0, hz0, hz1, hz2⟩ := info_parts info9
  have hlx : ts.length = n := by have := ha.1; rw [tokC_len] at this; omega
  have HLX := Lib.hid hlx
  clear hlx
  go_enter Try.func18, Try.ntmps18
  go_wp2_with fail
  go_loopw [3, 8] (fun v i wr => TextRel ts w n v i wr) (fun _ i _ => n - (intOf i).toNat)
  case atStart => exact ⟨0, 0, by omega, rfl, by omega, rfl, World.ownsRow_nil _ _ _ _, Below.refl _ _⟩
  case round =>
    obtain ⟨k, m, hk, rfl, hmk, hm, hown, hbel⟩ := hrel
    have HM := Lib.hid hm
    clear hm
    have hsz := hbel.size
    by_cases hlt : k < n
    · obtain ⟨b, o, t, rfl, hb0, HX, hc0, hc1, hc2, hc3⟩ := (ha.below hbel).tok k hlt
      have HX := Lib.hid HX
      by_cases h3 : t.kind = 3
      · have g3 : (t.kind != 3) = false := by simp [h3]
        have H3 := Lib.hid h3
        clear h3
        go_wp2_with fail
        exact ⟨text_skip hown HM.out hmk hlt hbel HX.out H3.out, by simp [intOf]; omega⟩
      · have g3 : (t.kind != 3) = true := by simp [h3]
        have H3 := Lib.hid h3
        clear h3
        go_wp2_with (at_builtin; refine wpList_append_own _ rfl (.tmp 15) (.tmp 18) 42 rfl w.heap.size 9 i0 _ 1 16 Try.underlying42 hi0 hz0 hz1 hz2 rfl (by decide) u3 m _ rfl ((hown.alloc _).alloc _) ⟨wr.heap.size + 1, 0, none⟩ 1 1 [strV t.text] rfl rfl (cells_new2 _ _ _ _ _ rfl) (by simp [strV, Value.oneCell']) (by simp only [maxLen]; omega) (by omega) (by simp; omega) ?_; intro v2 w2 hown2 hg2 _; have HR := text_app hown HM.out hmk hlt hbel hown2 hg2 HX.out H3.out; clear hown2 hg2)
        exact ⟨HR, by simp [intOf]; omega⟩
    · have hkn : k = n := by omega
      have htk : ts.take k = ts := List.take_of_length_le (by have := HLX.out; omega)
      have HTK := Lib.hid htk
      have hxl : (texts (ts.take k)).length ≤ 1000000 := by have := HM.out; omega
      have hjl : (joinP (texts (ts.take k))).length ≤ 140737488355328 := by rw [htk]; exact hlen
      have HJ := Lib.hid (join_own hown HM.out hxl hjl)
      clear hkn htk hxl hjl
      go_wp2_with fail
      refine HJ.out.mono ?_
      rintro e w1 ⟨rfl, hb1⟩
      go_wp2_with fail
      go_ret
      refine ⟨?_, hbel.trans (hb1.mono hsz)⟩
      rw [HTK.out]
      rfl
end Go.Proofs.Ytdmecoagiboieaa
