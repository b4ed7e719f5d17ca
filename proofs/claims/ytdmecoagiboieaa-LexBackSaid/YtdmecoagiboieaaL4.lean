/-
  The walk of LexBack: for every string the law returns true.
-/
import Derived.Test.YtdmecoagiboieaaC1
import Derived.Test.YtdmecoagiboieaaPd
namespace Go.Proofs.Ytdmecoagiboieaa
open Go.RowKit
attribute [local go_sem] byteI extE ext0 extAny

theorem texts_app (us : List Tok) (t : Tok) (h : ∀ u ∈ us, TokOk u) (h3 : t.kind = 3) : textP (us ++ [t]) = joinP (us.map Tok.text) := by
  unfold textP
  congr 2
  rw [List.filter_append]
  have h1 : us.filter (fun t => !(t.kind == 3)) = us := by
    rw [List.filter_eq_self]
    intro u hu
    have := next_kind _ _ (h u hu)
    simp only at this
    simp
    omega
  rw [h1]
  simp [h3]
theorem likeB_of (us ms : List Tok) (t t' : Tok) (h : likeAll us ms) (ht : likeT t t') : likeB (us ++ [t]) (ms ++ [t']) = true := by
  induction us generalizing ms with
  | nil =>
    cases ms with
    | nil => simp [likeB, ht]
    | cons a ms => simp [likeAll] at h
  | cons a us ih =>
    cases ms with
    | nil => simp [likeAll] at h
    | cons b ms =>
      simp only [likeAll, List.map_cons, List.cons.injEq, Prod.mk.injEq] at h
      simp only [List.cons_append, likeB, Bool.and_eq_true, decide_eq_true_eq]
      exact ⟨h.1, ih ms h.2⟩
theorem like_texts (us ms : List Tok) (h : likeAll us ms) : us.map Tok.text = ms.map Tok.text := by
  have := congrArg (List.map (fun x : Int × List UInt8 × Int => x.2.1)) h
  simpa [List.map_map, Function.comp_def] using this
theorem textP_like (us ms : List Tok) (t t' : Tok) (h : likeAll us ms) (h3 : t.kind = 3) (h3' : t'.kind = 3) : textP (us ++ [t]) = textP (ms ++ [t']) := by
  have key : ∀ us ms : List Tok, likeAll us ms → (us.filter (fun t => !(t.kind == 3))).map Tok.text = (ms.filter (fun t => !(t.kind == 3))).map Tok.text := by
    intro us
    induction us with
    | nil => intro ms h; cases ms with
      | nil => rfl
      | cons a ms => simp [likeAll] at h
    | cons a us ih => intro ms h; cases ms with
      | nil => simp [likeAll] at h
      | cons b ms =>
        simp only [likeAll, List.map_cons, List.cons.injEq, Prod.mk.injEq] at h
        have := ih ms h.2
        simp only [List.filter_cons, h.1.1]
        split <;> simp [this, h.1.2.1]
  unfold textP
  rw [List.filter_append, List.filter_append, List.map_append, List.map_append, key us ms h]
  simp [h3, h3']
theorem back_plain (t : List UInt8) (ht : t.length ≤ 900) (ts : List Tok) (h : lexP 0 t = .toks ts) :
    ∃ ms, lexTop (textP ts) = .toks ms ∧ likeB ts ms = true ∧ textP ms = textP ts ∧ (textP ts).length ≤ 2000 ∧ ts.length ≤ 901 ∧ ms.length ≤ 901 := by
  obtain ⟨us, rfl, hall, hsum⟩ := lexP_shape t 0 ts h
  have htx := texts_app us ⟨3, [], 0, ((0 + t.length : Nat) : Int)⟩ hall rfl
  obtain ⟨ms, e, hl, h3, h4, h5, hlike⟩ := lex_join us hall 0
  have hcnt : us.length ≤ (us.map (fun t => t.text.length)).sum := by
    clear hl htx hlike h hsum
    induction us with
    | nil => simp
    | cons a us ih =>
      have h0 := nextP_len (hall a (by simp))
      have := ih (fun t ht => hall t (List.mem_cons_of_mem _ ht))
      simp only [List.length_cons, List.map_cons, List.sum_cons] at this ⊢
      omega
  have hml : us.length = ms.length := by simpa [likeAll] using congrArg List.length hlike
  have hjl := join_len (us.map Tok.text)
  simp only [List.map_map, List.length_map] at hjl
  have e0 : (us.map (List.length ∘ Tok.text)).sum = (us.map (fun t => t.text.length)).sum := rfl
  rw [e0] at hjl
  have hlen : (textP (us ++ [⟨3, [], 0, ((0 + t.length : Nat) : Int)⟩])).length ≤ 2000 := by rw [htx]; omega
  refine ⟨ms ++ [e], ?_, likeB_of _ _ _ _ hlike ⟨h3.symm, h4.symm, h5.symm⟩, (textP_like _ _ _ _ hlike rfl h3).symm, hlen, by simp; omega, by simp; omega⟩
  have : lexTop (textP (us ++ [⟨3, [], 0, ((0 + t.length : Nat) : Int)⟩])) = lexP 0 (textP (us ++ [⟨3, [], 0, ((0 + t.length : Nat) : Int)⟩])) := by
    unfold lexTop
    rw [if_pos hlen]
  rw [this, htx, hl]

set_option maxRecDepth 100000 in
set_option maxHeartbeats 2000000 in
theorem back_walk (a : ByteArray) (w : World) (ha : a.size ≤ maxLen) :
    Calls Try.prog 4 #[.string a] w fun e w' => e = .returned (.bool true) ∧ Below w.heap.size w w' := by
  obtain ⟨⟨l⟩⟩ := a
  have hl : l.length ≤ 9223372036854775807 := by simpa [maxLen, ByteArray.size] using ha
  clear ha
  have ht : (l.take 900).length ≤ 900 := by simp; omega
  have HT := Lib.hid (lexTop_small _ ht)
  generalize hz : l.take 900 = t at *
  have HZ := Lib.hid hz
  clear hz
  go_enter Try.func4, Try.ntmps4
  go_wp2_with fail
  refine (small_any _).mono ?_
  rintro e w1 ⟨rfl, hb1⟩
  go_wp2_with fail
  refine (cut_any l _ hl).mono ?_
  rintro e w2 ⟨rfl, rfl⟩
  rw [HZ.out]
  go_wp2_with fail
  cases hx : lexP 0 t with
  | err p er =>
    have her := (lexP_err_code t 0 p er hx).1
    have g : (er != 0) = true := by simp; omega
    have HX := Lib.hid (HT.out.trans hx)
    clear hx her
    refine (lex_err t p er _ HX.out (by omega)).mono ?_
    rintro e w3 ⟨rfl, hb3⟩
    go_wp2_with fail
    go_ret
    exact ⟨rfl, bt hb1 hb3⟩
  | toks ts =>
    obtain ⟨ms, hm1, hm2, hm3, hm4, hm5, hm6⟩ := back_plain t ht ts hx
    have HX := Lib.hid (HT.out.trans hx)
    have M1 := Lib.hid hm1
    have M2 := Lib.hid hm2
    have M3 := Lib.hid hm3
    clear hx hm1 hm2 hm3
    refine (lex_ok t ts _ HX.out (by omega)).mono ?_
    rintro e w3 ⟨A, c, rfl, hS, hb3⟩
    go_wp2_with fail
    refine (text_any A ts.length c ts _ hS (by omega) (by omega)).mono ?_
    rintro e w4 ⟨rfl, hb4⟩
    go_wp2_with fail
    refine (lex_ok (textP ts) ms _ M1.out (by omega)).mono ?_
    rintro e w5 ⟨A', c', rfl, hS', hb5⟩
    go_wp2_with fail
    refine (like_any A A' ts.length ms.length c c' ts ms _ ((hS.below hb4).below hb5) hS' (by omega) (by omega)).mono ?_
    rintro e w6 ⟨rfl, hb6⟩
    rw [M2.out]
    go_wp2_with fail
    refine (text_any A' ms.length c' ms _ (hS'.below hb6) (by omega) (by rw [M3.out]; omega)).mono ?_
    rintro e w7 ⟨rfl, hb7⟩
    rw [M3.out]
    go_wp2_with fail
    go_ret
    exact ⟨rfl, bt (bt (bt (bt (bt hb1 hb3) hb4) hb5) hb6) hb7⟩
end Go.Proofs.Ytdmecoagiboieaa
