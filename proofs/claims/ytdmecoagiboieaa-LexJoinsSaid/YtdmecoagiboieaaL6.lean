/-
  The walk of LexJoins: for all strings the law returns true.
-/
import Derived.Test.YtdmecoagiboieaaC1
import Derived.Test.YtdmecoagiboieaaPd
namespace Go.Proofs.Ytdmecoagiboieaa
open Go.RowKit
theorem appL6 (a b : List UInt8) : (⟨a.toArray⟩ : ByteArray) ++ ⟨b.toArray⟩ = ⟨(a ++ b).toArray⟩ := by
  apply ByteArray.ext
  simp
attribute [local go_sem] byteI extE ext0 extAny appL6

theorem top_joins (x y : List UInt8) (c : UInt8) (hx : x.length ≤ 900) (hy : y.length ≤ 900) : lexTop (x ++ c :: y) = lexP 0 (x ++ c :: y) := by
  unfold lexTop
  rw [if_pos (by simp; omega)]
/-- the three ways -/
theorem joins_plain (x y : List UInt8) (c : UInt8) (hc : isBlank c.toNat = true) (hx : x.length ≤ 900) (hy : y.length ≤ 900) :
    (∃ p e, lexTop x = .err p e ∧ lexTop (x ++ c :: y) = .err p e ∧ e ≠ 0) ∨
    (∃ ts p e, lexTop x = .toks ts ∧ lexTop y = .err p e ∧ lexTop (x ++ c :: y) = .err (p + (x.length + 1)) e ∧ e ≠ 0 ∧ p ≤ 900) ∨
    (∃ us t vs zs, lexTop x = .toks (us ++ [t]) ∧ lexTop y = .toks vs ∧ lexTop (x ++ c :: y) = .toks zs ∧ zs = us ++ vs.map (shiftT (x.length + 1)) ∧ us.length ≤ 900 ∧ vs.length ≤ 901 ∧ ∀ v ∈ vs, 0 ≤ v.pos ∧ v.pos ≤ 900) := by
  rw [top_joins x y c hx hy, lexTop_small x hx, lexTop_small y hy]
  have happ := lexP_app c y hc _ x rfl 0
  have hsh := lexP_shift (x.length + 1) _ y rfl 0
  cases h1 : lexP 0 x with
  | err p e =>
    have := (lexP_err_code x 0 p e h1).1
    exact Or.inl ⟨p, e, rfl, happ.1 p e h1, by omega⟩
  | toks ts =>
    obtain ⟨us, rfl, hall, hsum⟩ := lexP_shape x 0 ts h1
    have hz := happ.2 us _ h1
    rw [show 0 + x.length + 1 = 0 + (x.length + 1) by omega, hsh] at hz
    have hcnt : ∀ us : List Tok, (∀ t ∈ us, TokOk t) → us.length ≤ (us.map (fun t => t.text.length)).sum := by
      intro us
      induction us with
      | nil => simp
      | cons a us ih =>
        intro hall
        have h0 := nextP_len (hall a (by simp))
        have := ih (fun t ht => hall t (List.mem_cons_of_mem _ ht))
        simp only [List.length_cons, List.map_cons, List.sum_cons] at this ⊢
        omega
    cases h2 : lexP 0 y with
    | err p e =>
      have hcode := lexP_err_code y 0 p e h2
      rw [h2] at hz
      exact Or.inr (Or.inl ⟨_, p, e, rfl, rfl, hz, by omega, by omega⟩)
    | toks vs =>
      rw [h2] at hz
      obtain ⟨vs', hv, hall', hsum'⟩ := lexP_shape y 0 vs h2
      have c1 := hcnt us hall
      have c2 := hcnt vs' hall'
      refine Or.inr (Or.inr ⟨us, _, vs, _, rfl, rfl, hz, rfl, by omega, by rw [hv]; simp; omega, ?_⟩)
      have hpos : ∀ (n : Nat) (l : List UInt8), l.length = n → ∀ (pos : Nat) (ts : List Tok), lexP pos l = .toks ts → ∀ v ∈ ts, 0 ≤ v.pos ∧ v.pos ≤ ((pos + l.length : Nat) : Int) := by
        intro n
        induction n using Nat.strongRecOn with
        | _ n ih =>
          intro l hl pos ts h v hv
          cases l with
          | nil => rw [lexP_nil] at h; injection h with h; subst h; simp at hv; subst hv; simp
          | cons d l =>
            simp only [List.length_cons] at hl
            cases hb : isBlank d.toNat
            · cases hn : nextP (d :: l) with
              | error e => rw [lexP_err _ _ _ _ hb hn] at h; cases h
              | ok t =>
                have hlen := nextP_len hn
                simp only [List.length_cons] at hlen
                rw [lexP_tok _ _ _ _ hb hn] at h
                cases hr : lexP (pos + t.text.length) (List.drop t.text.length (d :: l)) with
                | err p e => rw [hr] at h; simp [Res.cons] at h
                | toks q =>
                  rw [hr] at h
                  simp only [Res.cons, Res.toks.injEq] at h
                  subst h
                  rcases List.mem_cons.1 hv with rfl | hv
                  · simp only [List.length_cons]; omega
                  · have := ih _ (by simp only [List.length_drop, List.length_cons]; omega) _ rfl _ _ hr v hv
                    simp only [List.length_drop, List.length_cons] at this ⊢
                    omega
            · rw [lexP_blank _ _ _ hb] at h
              have := ih l.length (by omega) l rfl _ _ h v hv
              simp only [List.length_cons]
              omega
      intro v hv
      have := hpos _ y rfl 0 vs h2 v hv
      omega

theorem lexPost_form {w w' : World} {r : Res} {e : Ending} (h : match r with
    | .toks ts => ∃ v, e = .returned (.tuple #[v, .int .i64 0, .int .i64 0]) ∧ w'.ownsRow w.heap.size 25 4 v ts.length (ts.flatMap tokC)
    | .err p er => e = .returned (.tuple #[.slice none 0 0, .int .i64 p, .int .i64 er])) : ∃ (v : Value) (i er : Int), e = .returned (.tuple #[v, .int .i64 i, .int .i64 er]) := by
  cases r with
  | toks ts => obtain ⟨v, rfl, _⟩ := h; exact ⟨v, 0, 0, rfl⟩
  | err p er => exact ⟨_, _, _, h⟩
theorem neq_same (t : Tok) (W : World) : (binOp .neq 25 (.agg #[.int .i64 t.kind, .string ⟨t.text.toArray⟩, .int .i64 t.n, .int .i64 t.pos]) (.agg #[.int .i64 t.kind, .string ⟨t.text.toArray⟩, .int .i64 t.n, .int .i64 t.pos])).run Try.prog W = .ok (.bool false) W := by
  rw [neq_tok]; simp
theorem joins_lo {us vs zs ts : List Tok} {t z z' : Tok} {d k : Nat} (h4 : zs = us ++ vs.map (shiftT d)) (hts : us ++ [t] = ts) (hx : zs[k]? = some z) (hy : ts[k]? = some z') (hk : k < us.length) : z' = z := by
  subst h4; subst hts
  rw [List.getElem?_append_left hk] at hx hy
  rw [hx] at hy
  exact (Option.some.inj hy).symm
theorem joins_hi {us vs zs : List Tok} {z v : Tok} {d k i : Nat} (h4 : zs = us ++ vs.map (shiftT d)) (hx : zs[k]? = some z) (hy : vs[i]? = some v) (hk : k = us.length + i) : z = shiftT d v := by
  subst h4; subst hk
  rw [List.getElem?_append_right (by omega), List.getElem?_map, show us.length + i - us.length = i by omega, hy] at hx
  simpa using hx.symm
theorem below_drewN' {B : Nat} {a w : World} (h : Below B a w) {n : Nat} : Below B a (w.drewN n) := ⟨h.os, h.tape, h.output, h.size, h.block⟩
set_option maxRecDepth 100000 in
set_option maxHeartbeats 6000000 in
theorem joins_walk (a b : ByteArray) (m : Int) (w : World) (ha : a.size ≤ maxLen) (hb : b.size ≤ maxLen) (hm0 : 0 ≤ m) (hm1 : m ≤ 255) :
    Calls Try.prog 6 #[.string a, .string b, .int .u8 m] w fun e w' => e = .returned (.bool true) ∧ Below w.heap.size w w' := by
  obtain ⟨⟨l1⟩⟩ := a
  obtain ⟨⟨l2⟩⟩ := b
  have hl1 : l1.length ≤ 9223372036854775807 := by simpa [maxLen, ByteArray.size] using ha
  have hl2 : l2.length ≤ 9223372036854775807 := by simpa [maxLen, ByteArray.size] using hb
  clear ha hb
  have hx : (l1.take 900).length ≤ 900 := by simp; omega
  have hy : (l2.take 900).length ≤ 900 := by simp; omega
  generalize hz1 : l1.take 900 = x at *
  generalize hz2 : l2.take 900 = y at *
  have HZ1 := Lib.hid hz1
  have HZ2 := Lib.hid hz2
  clear hz1 hz2
  have hm : m % 3 = 0 ∨ m % 3 = 1 ∨ m % 3 = 2 := by omega
  have H9 := Lib.hid (joins_plain x y 9 (by decide) hx hy)
  have H10 := Lib.hid (joins_plain x y 10 (by decide) hx hy)
  have H32 := Lib.hid (joins_plain x y 32 (by decide) hx hy)
  rcases hm with hm | hm | hm
  · go_enter Try.func6, Try.ntmps6
    go_wp2_with fail
    refine (small_any _).mono ?_
    rintro e w1 ⟨rfl, hb1⟩
    go_wp2_with fail
    refine (cut_any l1 _ hl1).mono ?_
    rintro e w2 ⟨rfl, rfl⟩
    rw [HZ1.out]
    go_wp2_with fail
    refine (cut_any l2 _ hl2).mono ?_
    rintro e w2 ⟨rfl, rfl⟩
    rw [HZ2.out]
    go_wp2_with fail
    rcases H9.out with ⟨p, er, q1, q2, q3⟩ | ⟨ts, p, er, q1, q2, q3, q4, q5⟩ | ⟨us, t, vs, zs, q1, q2, q3, q4, q5, q6, q7⟩
    · have g : (er != 0) = true := by simpa using q3
      have Q1 := Lib.hid q1
      have Q2 := Lib.hid q2
      clear q1 q2 q3
      refine (lex_err x p er _ Q1.out (by omega)).mono ?_
      rintro e w3 ⟨rfl, hb3⟩
      go_wp2_with fail
      refine (lex_any y _ (by omega)).mono ?_
      rintro e w4 ⟨hb4, hp4⟩
      obtain ⟨v4, i4, e4, rfl⟩ := lexPost_form hp4
      clear hp4
      go_wp2_with fail
      refine (lex_err (x ++ 9 :: y) p er _ Q2.out (by simp; omega)).mono ?_
      rintro e w5 ⟨rfl, hb5⟩
      go_wp2_with fail
      go_ret
      exact ⟨rfl, bt (bt (bt hb1 hb3) hb4) hb5⟩
    · have g : (er != 0) = true := by simpa using q4
      have Q1 := Lib.hid q1
      have Q2 := Lib.hid q2
      have Q3 := Lib.hid q3
      clear q1 q2 q3 q4
      refine (lex_ok x ts _ Q1.out (by omega)).mono ?_
      rintro e w3 ⟨A, ca, rfl, hS, hb3⟩
      go_wp2_with fail
      refine (lex_err y p er _ Q2.out (by omega)).mono ?_
      rintro e w4 ⟨rfl, hb4⟩
      go_wp2_with fail
      have hpq : ((p + (x.length + 1) : Nat) : Int) = (x.length : Int) + 1 + (p : Int) := by omega
      have HPQ := Lib.hid hpq
      clear hpq
      refine (lex_err (x ++ 9 :: y) (p + (x.length + 1)) er _ Q3.out (by simp; omega)).mono ?_
      rintro e w5 ⟨rfl, hb5⟩
      rw [HPQ.out]
      go_wp2_with fail
      go_ret
      exact ⟨rfl, bt (bt (bt hb1 hb3) hb4) hb5⟩
    · have Q1 := Lib.hid q1
      have Q2 := Lib.hid q2
      have Q3 := Lib.hid q3
      have Q4 := Lib.hid q4
      have Q7 := Lib.hid q7
      have hlz : zs.length = us.length + vs.length := by rw [q4]; simp
      have hla : (us ++ [t]).length = us.length + 1 := by simp
      clear q1 q2 q3 q4 q7
      generalize hts : us ++ [t] = ts at *
      have HTS := Lib.hid hts
      clear hts
      have hn1 : 1 ≤ ts.length := by omega
      have hn2 : ts.length ≤ 901 := by omega
      have hn3 : zs.length ≤ 1801 := by omega
      have hn4 : ((zs.length : Int) != (ts.length : Int) - 1 + (vs.length : Int)) = false := by simp; omega
      have HLZ := Lib.hid hlz
      have HLA := Lib.hid hla
      clear hlz hla
      refine (lex_ok x ts _ Q1.out (by omega)).mono ?_
      rintro e w3 ⟨A, ca, rfl, hS, hb3⟩
      go_wp2_with fail
      refine (lex_ok y vs _ Q2.out (by omega)).mono ?_
      rintro e w4 ⟨A', ca', rfl, hS', hb4⟩
      go_wp2_with fail
      refine (lex_ok (x ++ 9 :: y) zs _ Q3.out (by simp; omega)).mono ?_
      rintro e w5 ⟨A'', ca'', rfl, hS'', hb5⟩
      have hA := (hS.below hb4).below hb5
      have hA' := hS'.below hb5
      have hA'' := hS''
      have hB := bt (bt (bt hb1 hb3) hb4) hb5
      clear hS hS' hS'' hb3 hb4 hb5 hb1
      go_wp2_with fail
      go_loopw [21] (fun i wr => ∃ k : Nat, k ≤ zs.length ∧ i = .int .i64 k ∧ Below w5.heap.size w5 wr) (fun i _ => zs.length - (intOf i).toNat)
      case atStart => exact ⟨0, by omega, rfl, Below.refl _ _⟩
      case round =>
        obtain ⟨k, hk, rfl, hbel⟩ := hrel
        by_cases hlt : k < zs.length
        · obtain ⟨bz, oz, z, rfl, hbz, HX, hz0, hz1, hz2, hz3⟩ := (hA''.below hbel).tok k hlt
          have HX := Lib.hid HX
          have eg := eg25
          have hnq := neq_same z
          by_cases hlo : k + 1 < ts.length
          · obtain ⟨ba, oa, z', rfl, hba, HY, ha0, ha1, ha2, ha3⟩ := (hA.below hbel).tok k (by omega)
            have hzz : z' = z := joins_lo Q4.out HTS.out HX.out HY (by have := HLA.out; omega)
            subst hzz
            clear HY
            go_wp2_with fail
            go_quiet (fail)
            go_wp2_with fail
            refine ⟨⟨k + 1, by omega, by go_num, ?_⟩, by simp [intOf]; omega⟩
            exact below_drewN' ((hbel.alloc hbel.size _))
          · obtain ⟨i, hi⟩ : ∃ i, k = us.length + i := ⟨k - us.length, by have := HLA.out; omega⟩
            have hidx : ((k : Int) - (ts.length : Int) + 1) = (i : Int) := by have := HLA.out; omega
            have hiv : i < vs.length := by have := HLZ.out; omega
            obtain ⟨bb, ob, v, rfl, hbb, HY, hv0, hv1, hv2, hv3⟩ := (hA'.below hbel).tok i hiv
            have hzv : z = shiftT (x.length + 1) v := joins_hi Q4.out HX.out HY hi
            subst hzv
            have hpp : v.pos + ((x.length + 1 : Nat) : Int) = v.pos + (x.length : Int) + 1 := by omega
            simp only [shiftT] at hz0 hz1 hz2 hz3 hnq
            rw [hpp] at hz3 hnq
            clear hpp
            have hvp := Q7.out v (List.mem_of_getElem? HY)
            obtain ⟨hvp1, hvp2⟩ := hvp
            have HI := Lib.hid hi
            clear HY hi
            go_wp2_with fail
            go_quiet (fail)
            go_wp2_with fail
            refine ⟨⟨k + 1, by omega, by go_num, ?_⟩, by simp [intOf]; omega⟩
            exact below_drewN' ((hbel.alloc hbel.size _))
        · go_wp2_with fail
          go_ret
          exact ⟨rfl, bt hB hbel⟩
  · go_enter Try.func6, Try.ntmps6
    go_wp2_with fail
    refine (small_any _).mono ?_
    rintro e w1 ⟨rfl, hb1⟩
    go_wp2_with fail
    refine (cut_any l1 _ hl1).mono ?_
    rintro e w2 ⟨rfl, rfl⟩
    rw [HZ1.out]
    go_wp2_with fail
    refine (cut_any l2 _ hl2).mono ?_
    rintro e w2 ⟨rfl, rfl⟩
    rw [HZ2.out]
    go_wp2_with fail
    rcases H10.out with ⟨p, er, q1, q2, q3⟩ | ⟨ts, p, er, q1, q2, q3, q4, q5⟩ | ⟨us, t, vs, zs, q1, q2, q3, q4, q5, q6, q7⟩
    · have g : (er != 0) = true := by simpa using q3
      have Q1 := Lib.hid q1
      have Q2 := Lib.hid q2
      clear q1 q2 q3
      refine (lex_err x p er _ Q1.out (by omega)).mono ?_
      rintro e w3 ⟨rfl, hb3⟩
      go_wp2_with fail
      refine (lex_any y _ (by omega)).mono ?_
      rintro e w4 ⟨hb4, hp4⟩
      obtain ⟨v4, i4, e4, rfl⟩ := lexPost_form hp4
      clear hp4
      go_wp2_with fail
      refine (lex_err (x ++ 10 :: y) p er _ Q2.out (by simp; omega)).mono ?_
      rintro e w5 ⟨rfl, hb5⟩
      go_wp2_with fail
      go_ret
      exact ⟨rfl, bt (bt (bt hb1 hb3) hb4) hb5⟩
    · have g : (er != 0) = true := by simpa using q4
      have Q1 := Lib.hid q1
      have Q2 := Lib.hid q2
      have Q3 := Lib.hid q3
      clear q1 q2 q3 q4
      refine (lex_ok x ts _ Q1.out (by omega)).mono ?_
      rintro e w3 ⟨A, ca, rfl, hS, hb3⟩
      go_wp2_with fail
      refine (lex_err y p er _ Q2.out (by omega)).mono ?_
      rintro e w4 ⟨rfl, hb4⟩
      go_wp2_with fail
      have hpq : ((p + (x.length + 1) : Nat) : Int) = (x.length : Int) + 1 + (p : Int) := by omega
      have HPQ := Lib.hid hpq
      clear hpq
      refine (lex_err (x ++ 10 :: y) (p + (x.length + 1)) er _ Q3.out (by simp; omega)).mono ?_
      rintro e w5 ⟨rfl, hb5⟩
      rw [HPQ.out]
      go_wp2_with fail
      go_ret
      exact ⟨rfl, bt (bt (bt hb1 hb3) hb4) hb5⟩
    · have Q1 := Lib.hid q1
      have Q2 := Lib.hid q2
      have Q3 := Lib.hid q3
      have Q4 := Lib.hid q4
      have Q7 := Lib.hid q7
      have hlz : zs.length = us.length + vs.length := by rw [q4]; simp
      have hla : (us ++ [t]).length = us.length + 1 := by simp
      clear q1 q2 q3 q4 q7
      generalize hts : us ++ [t] = ts at *
      have HTS := Lib.hid hts
      clear hts
      have hn1 : 1 ≤ ts.length := by omega
      have hn2 : ts.length ≤ 901 := by omega
      have hn3 : zs.length ≤ 1801 := by omega
      have hn4 : ((zs.length : Int) != (ts.length : Int) - 1 + (vs.length : Int)) = false := by simp; omega
      have HLZ := Lib.hid hlz
      have HLA := Lib.hid hla
      clear hlz hla
      refine (lex_ok x ts _ Q1.out (by omega)).mono ?_
      rintro e w3 ⟨A, ca, rfl, hS, hb3⟩
      go_wp2_with fail
      refine (lex_ok y vs _ Q2.out (by omega)).mono ?_
      rintro e w4 ⟨A', ca', rfl, hS', hb4⟩
      go_wp2_with fail
      refine (lex_ok (x ++ 10 :: y) zs _ Q3.out (by simp; omega)).mono ?_
      rintro e w5 ⟨A'', ca'', rfl, hS'', hb5⟩
      have hA := (hS.below hb4).below hb5
      have hA' := hS'.below hb5
      have hA'' := hS''
      have hB := bt (bt (bt hb1 hb3) hb4) hb5
      clear hS hS' hS'' hb3 hb4 hb5 hb1
      go_wp2_with fail
      go_loopw [21] (fun i wr => ∃ k : Nat, k ≤ zs.length ∧ i = .int .i64 k ∧ Below w5.heap.size w5 wr) (fun i _ => zs.length - (intOf i).toNat)
      case atStart => exact ⟨0, by omega, rfl, Below.refl _ _⟩
      case round =>
        obtain ⟨k, hk, rfl, hbel⟩ := hrel
        by_cases hlt : k < zs.length
        · obtain ⟨bz, oz, z, rfl, hbz, HX, hz0, hz1, hz2, hz3⟩ := (hA''.below hbel).tok k hlt
          have HX := Lib.hid HX
          have eg := eg25
          have hnq := neq_same z
          by_cases hlo : k + 1 < ts.length
          · obtain ⟨ba, oa, z', rfl, hba, HY, ha0, ha1, ha2, ha3⟩ := (hA.below hbel).tok k (by omega)
            have hzz : z' = z := joins_lo Q4.out HTS.out HX.out HY (by have := HLA.out; omega)
            subst hzz
            clear HY
            go_wp2_with fail
            go_quiet (fail)
            go_wp2_with fail
            refine ⟨⟨k + 1, by omega, by go_num, ?_⟩, by simp [intOf]; omega⟩
            exact below_drewN' ((hbel.alloc hbel.size _))
          · obtain ⟨i, hi⟩ : ∃ i, k = us.length + i := ⟨k - us.length, by have := HLA.out; omega⟩
            have hidx : ((k : Int) - (ts.length : Int) + 1) = (i : Int) := by have := HLA.out; omega
            have hiv : i < vs.length := by have := HLZ.out; omega
            obtain ⟨bb, ob, v, rfl, hbb, HY, hv0, hv1, hv2, hv3⟩ := (hA'.below hbel).tok i hiv
            have hzv : z = shiftT (x.length + 1) v := joins_hi Q4.out HX.out HY hi
            subst hzv
            have hpp : v.pos + ((x.length + 1 : Nat) : Int) = v.pos + (x.length : Int) + 1 := by omega
            simp only [shiftT] at hz0 hz1 hz2 hz3 hnq
            rw [hpp] at hz3 hnq
            clear hpp
            have hvp := Q7.out v (List.mem_of_getElem? HY)
            obtain ⟨hvp1, hvp2⟩ := hvp
            have HI := Lib.hid hi
            clear HY hi
            go_wp2_with fail
            go_quiet (fail)
            go_wp2_with fail
            refine ⟨⟨k + 1, by omega, by go_num, ?_⟩, by simp [intOf]; omega⟩
            exact below_drewN' ((hbel.alloc hbel.size _))
        · go_wp2_with fail
          go_ret
          exact ⟨rfl, bt hB hbel⟩
  · go_enter Try.func6, Try.ntmps6
    go_wp2_with fail
    refine (small_any _).mono ?_
    rintro e w1 ⟨rfl, hb1⟩
    go_wp2_with fail
    refine (cut_any l1 _ hl1).mono ?_
    rintro e w2 ⟨rfl, rfl⟩
    rw [HZ1.out]
    go_wp2_with fail
    refine (cut_any l2 _ hl2).mono ?_
    rintro e w2 ⟨rfl, rfl⟩
    rw [HZ2.out]
    go_wp2_with fail
    rcases H32.out with ⟨p, er, q1, q2, q3⟩ | ⟨ts, p, er, q1, q2, q3, q4, q5⟩ | ⟨us, t, vs, zs, q1, q2, q3, q4, q5, q6, q7⟩
    · have g : (er != 0) = true := by simpa using q3
      have Q1 := Lib.hid q1
      have Q2 := Lib.hid q2
      clear q1 q2 q3
      refine (lex_err x p er _ Q1.out (by omega)).mono ?_
      rintro e w3 ⟨rfl, hb3⟩
      go_wp2_with fail
      refine (lex_any y _ (by omega)).mono ?_
      rintro e w4 ⟨hb4, hp4⟩
      obtain ⟨v4, i4, e4, rfl⟩ := lexPost_form hp4
      clear hp4
      go_wp2_with fail
      refine (lex_err (x ++ 32 :: y) p er _ Q2.out (by simp; omega)).mono ?_
      rintro e w5 ⟨rfl, hb5⟩
      go_wp2_with fail
      go_ret
      exact ⟨rfl, bt (bt (bt hb1 hb3) hb4) hb5⟩
    · have g : (er != 0) = true := by simpa using q4
      have Q1 := Lib.hid q1
      have Q2 := Lib.hid q2
      have Q3 := Lib.hid q3
      clear q1 q2 q3 q4
      refine (lex_ok x ts _ Q1.out (by omega)).mono ?_
      rintro e w3 ⟨A, ca, rfl, hS, hb3⟩
      go_wp2_with fail
      refine (lex_err y p er _ Q2.out (by omega)).mono ?_
      rintro e w4 ⟨rfl, hb4⟩
      go_wp2_with fail
      have hpq : ((p + (x.length + 1) : Nat) : Int) = (x.length : Int) + 1 + (p : Int) := by omega
      have HPQ := Lib.hid hpq
      clear hpq
      refine (lex_err (x ++ 32 :: y) (p + (x.length + 1)) er _ Q3.out (by simp; omega)).mono ?_
      rintro e w5 ⟨rfl, hb5⟩
      rw [HPQ.out]
      go_wp2_with fail
      go_ret
      exact ⟨rfl, bt (bt (bt hb1 hb3) hb4) hb5⟩
    · have Q1 := Lib.hid q1
      have Q2 := Lib.hid q2
      have Q3 := Lib.hid q3
      have Q4 := Lib.hid q4
      have Q7 := Lib.hid q7
      have hlz : zs.length = us.length + vs.length := by rw [q4]; simp
      have hla : (us ++ [t]).length = us.length + 1 := by simp
      clear q1 q2 q3 q4 q7
      generalize hts : us ++ [t] = ts at *
      have HTS := Lib.hid hts
      clear hts
      have hn1 : 1 ≤ ts.length := by omega
      have hn2 : ts.length ≤ 901 := by omega
      have hn3 : zs.length ≤ 1801 := by omega
      have hn4 : ((zs.length : Int) != (ts.length : Int) - 1 + (vs.length : Int)) = false := by simp; omega
      have HLZ := Lib.hid hlz
      have HLA := Lib.hid hla
      clear hlz hla
      refine (lex_ok x ts _ Q1.out (by omega)).mono ?_
      rintro e w3 ⟨A, ca, rfl, hS, hb3⟩
      go_wp2_with fail
      refine (lex_ok y vs _ Q2.out (by omega)).mono ?_
      rintro e w4 ⟨A', ca', rfl, hS', hb4⟩
      go_wp2_with fail
      refine (lex_ok (x ++ 32 :: y) zs _ Q3.out (by simp; omega)).mono ?_
      rintro e w5 ⟨A'', ca'', rfl, hS'', hb5⟩
      have hA := (hS.below hb4).below hb5
      have hA' := hS'.below hb5
      have hA'' := hS''
      have hB := bt (bt (bt hb1 hb3) hb4) hb5
      clear hS hS' hS'' hb3 hb4 hb5 hb1
      go_wp2_with fail
      go_loopw [21] (fun i wr => ∃ k : Nat, k ≤ zs.length ∧ i = .int .i64 k ∧ Below w5.heap.size w5 wr) (fun i _ => zs.length - (intOf i).toNat)
      case atStart => exact ⟨0, by omega, rfl, Below.refl _ _⟩
      case round =>
        obtain ⟨k, hk, rfl, hbel⟩ := hrel
        by_cases hlt : k < zs.length
        · obtain ⟨bz, oz, z, rfl, hbz, HX, hz0, hz1, hz2, hz3⟩ := (hA''.below hbel).tok k hlt
          have HX := Lib.hid HX
          have eg := eg25
          have hnq := neq_same z
          by_cases hlo : k + 1 < ts.length
          · obtain ⟨ba, oa, z', rfl, hba, HY, ha0, ha1, ha2, ha3⟩ := (hA.below hbel).tok k (by omega)
            have hzz : z' = z := joins_lo Q4.out HTS.out HX.out HY (by have := HLA.out; omega)
            subst hzz
            clear HY
            go_wp2_with fail
            go_quiet (fail)
            go_wp2_with fail
            refine ⟨⟨k + 1, by omega, by go_num, ?_⟩, by simp [intOf]; omega⟩
            exact below_drewN' ((hbel.alloc hbel.size _))
          · obtain ⟨i, hi⟩ : ∃ i, k = us.length + i := ⟨k - us.length, by have := HLA.out; omega⟩
            have hidx : ((k : Int) - (ts.length : Int) + 1) = (i : Int) := by have := HLA.out; omega
            have hiv : i < vs.length := by have := HLZ.out; omega
            obtain ⟨bb, ob, v, rfl, hbb, HY, hv0, hv1, hv2, hv3⟩ := (hA'.below hbel).tok i hiv
            have hzv : z = shiftT (x.length + 1) v := joins_hi Q4.out HX.out HY hi
            subst hzv
            have hpp : v.pos + ((x.length + 1 : Nat) : Int) = v.pos + (x.length : Int) + 1 := by omega
            simp only [shiftT] at hz0 hz1 hz2 hz3 hnq
            rw [hpp] at hz3 hnq
            clear hpp
            have hvp := Q7.out v (List.mem_of_getElem? HY)
            obtain ⟨hvp1, hvp2⟩ := hvp
            have HI := Lib.hid hi
            clear HY hi
            go_wp2_with fail
            go_quiet (fail)
            go_wp2_with fail
            refine ⟨⟨k + 1, by omega, by go_num, ?_⟩, by simp [intOf]; omega⟩
            exact below_drewN' ((hbel.alloc hbel.size _))
        · go_wp2_with fail
          go_ret
          exact ⟨rfl, bt hB hbel⟩
end Go.Proofs.Ytdmecoagiboieaa
