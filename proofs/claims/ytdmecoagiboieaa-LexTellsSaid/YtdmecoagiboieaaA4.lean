/-
  The contract of Lex (layer 11).
-/
import Derived.Test.YtdmecoagiboieaaA3
namespace Go.Proofs.Ytdmecoagiboieaa
open Go.RowKit
attribute [local go_sem] byteI extE ext0 extAny

def tokC (t : Tok) : List Value := [.int .i64 t.kind, .string ⟨t.text.toArray⟩, .int .i64 t.n, .int .i64 t.pos]
def LexPost (w w' : World) (r : Res) (e : Ending) : Prop := Below w.heap.size w w' ∧
  match r with
  | .toks ts => ∃ v, e = .returned (.tuple #[v, .int .i64 0, .int .i64 0]) ∧ w'.ownsRow w.heap.size 25 4 v ts.length (ts.flatMap tokC)
  | .err p er => e = .returned (.tuple #[.slice none 0 0, .int .i64 p, .int .i64 er])
theorem info25 : (Try.prog.info? 25).map (fun i => (i.zero, i.size, i.bytes)) = some (some (tokV ⟨0, [], 0, 0⟩), 4, 40) := by kernel_rfl

theorem cells_new (w : World) (cs : Array Value) (t : TypeId) (news : List Value) (h : news = cs.toList) :
    ∀ j u, news[j]? = some u → (w.alloc (.cells cs t)).cell? ((⟨w.heap.size, 0, none⟩ : Addr).add j) = some u := by
  intro j u hu
  subst h
  have e : (⟨w.heap.size, 0, none⟩ : Addr).add j = ⟨w.heap.size, j, none⟩ := by
    unfold Addr.add
    by_cases hj : j = 0
    · subst hj; rfl
    · simp [hj]
  rw [e, cell_of_row _ _ _ cs t (0, 0) (heap_alloc_new w _)]
  simpa using hu
theorem tok_one (t : Tok) : ∀ u ∈ tokC t, u.oneCell' = true := by
  intro u hu
  simp only [tokC, List.mem_cons, List.not_mem_nil, or_false] at hu
  rcases hu with rfl | rfl | rfl | rfl <;> rfl
/-- appending one token to an own row: what holds afterwards -/
theorem rel_app {w wr w1 : World} {v v1 : Value} {ts : List Tok} {t : Tok} {o : Obj} (hown : wr.ownsRow w.heap.size 25 4 v ts.length (ts.flatMap tokC)) (hbel : Below w.heap.size w wr)
    (hown1 : w1.ownsRow w.heap.size 25 4 v1 (ts.length + 1) (ts.flatMap tokC ++ tokC t)) (hg : (wr.alloc o).grownBy w1 v.ownBlock) :
    w1.ownsRow w.heap.size 25 4 v1 (ts ++ [t]).length ((ts ++ [t]).flatMap tokC) ∧ Below w.heap.size w w1 :=
  ⟨by simpa using hown1, (hbel.alloc hbel.size o).grown hg (by have := hbel.size; simp; omega) (fun k hk => (hown.lt k hk).1)⟩
theorem next_ne (l : List UInt8) (w : World) (hn : l ≠ []) (hl : l.length ≤ 9223372036854775807) :
    Calls Try.prog 24 #[.string ⟨l.toArray⟩] w fun e w' => e = .returned (nextVal (nextP l)) ∧ Below w.heap.size w w' := by
  cases l with
  | nil => exact absurd rfl hn
  | cons c r => exact next_any c r w (by simp at hl; omega)
theorem nextP_err {l : List UInt8} {e : Int} (hn : l ≠ []) (h : nextP l = .error e) : e = 10 ∨ e = 11 ∨ e = 3 := by
  cases l with
  | nil => exact absurd rfl hn
  | cons c r =>
    simp only [nextP] at h
    repeat' split at h
    all_goals first | (cases h; done) | (injection h with h; omega)
theorem bcell {W w1 : World} (hb : Below W.heap.size W w1) : (∀ b o, b < W.heap.size → w1.cell? ⟨b, o, none⟩ = W.cell? ⟨b, o, none⟩) ∧ (∀ b o, b < W.heap.size → w1.frozen? ⟨b, o, none⟩ = W.frozen? ⟨b, o, none⟩) :=
  ⟨fun b o h => hb.cell (p := ⟨b, o, none⟩) h, fun b o h => hb.frozen (p := ⟨b, o, none⟩) h⟩
theorem own_below {w w1 : World} {base size n : Nat} {E : TypeId} {v : Value} {xs : List Value} (h : w.ownsRow base E size v n xs) (hb : Below w.heap.size w w1) : w1.ownsRow base E size v n xs :=
  h.kept (row := none) ⟨hb.os, hb.tape, hb.output, hb.size, fun k hk _ => hb.block k hk⟩ (by cases v.ownBlock <;> simp)
theorem below_trans' {B : Nat} {a b c : World} (h : Below B a b) (hB : B ≤ b.heap.size) (k : Below b.heap.size b c) : Below B a c := h.trans (k.mono hB)
def Res.pre (ts : List Tok) : Res → Res
  | .toks l => .toks (ts ++ l)
  | .err p e => .err p e

theorem lexP_step {a b : Nat} {l : List UInt8} {r : Res} (h1 : lexP a (l.drop a) = lexP (a + b) ((l.drop a).drop b)) (h2 : lexP (a + b) (l.drop (a + b)) = r) : lexP a (l.drop a) = r := by
  rw [h1, List.drop_drop, h2]
theorem Res.pre_cons (ts : List Tok) (t : Tok) (r : Res) : (r.cons t).pre ts = r.pre (ts ++ [t]) := by cases r <;> simp [Res.cons, Res.pre]
theorem drop_cons {l : List UInt8} {n : Nat} (h : n < l.length) : l.drop n = l[n] :: l.drop (n + 1) := List.drop_eq_getElem_cons h
theorem not_blank_at {a b : Nat} {l : List UInt8} (hb : spanN isBlank (l.drop a) = b) (hlt : a + b < l.length) : isBlank (l[a + b].toNat) = false := by
  have key : ∀ (m : List UInt8) (n : Nat), spanN isBlank m = n → (h : n < m.length) → isBlank (m[n].toNat) = false := by
    intro m
    induction m with
    | nil => intro n _ h; simp at h
    | cons c m ih =>
      intro n hn h
      rw [spanN_cons] at hn
      by_cases hc : isBlank c.toNat
      · rw [if_pos hc] at hn
        subst hn
        simpa using ih _ rfl (by simpa using h)
      · rw [if_neg hc] at hn
        subst hn
        simpa using hc
  have := key (l.drop a) b hb (by simp; omega)
  rw [List.getElem_drop] at this
  exact this
theorem lexP_at_err {a b : Nat} {l : List UInt8} {e : Int} (hb : spanN isBlank (l.drop a) = b) (hlt : a + b < l.length) (hn : nextP (l.drop (a + b)) = .error e) : lexP (a + b) (l.drop (a + b)) = .err (a + b) e := by
  rw [drop_cons hlt] at hn ⊢
  exact lexP_err _ _ _ _ (not_blank_at hb hlt) hn
theorem lexP_at_tok {a b : Nat} {l : List UInt8} {t : Tok} (hb : spanN isBlank (l.drop a) = b) (hlt : a + b < l.length) (hn : nextP (l.drop (a + b)) = .ok t) :
    lexP (a + b) (l.drop (a + b)) = (lexP (a + b + t.text.length) (l.drop (a + b + t.text.length))).cons { t with pos := ((a + b : Nat) : Int) } := by
  have h0 : l.drop (a + b + t.text.length) = (l.drop (a + b)).drop t.text.length := by rw [List.drop_drop]
  rw [h0]
  rw [drop_cons hlt] at hn ⊢
  exact lexP_tok _ _ _ _ (not_blank_at hb hlt) hn
theorem cells_new2 (w : World) (o : Obj) (cs : Array Value) (t : TypeId) (news : List Value) (h : news = cs.toList) :
    ∀ j u, news[j]? = some u → ((w.alloc o).alloc (.cells cs t)).cell? ((⟨w.heap.size + 1, 0, none⟩ : Addr).add j) = some u := by
  have := cells_new (w.alloc o) cs t news h
  simpa using this
theorem cell_kept {w wr w1 w2 : World} {v : Value} {n : Nat} {xs : List Value} {cs : Array Value} {T : TypeId} {o : Obj} {i : Nat} {x : Value} (hown : wr.ownsRow w.heap.size 25 4 v n xs) (hb : wr.heap.size ≤ w1.heap.size)
    (hg : ((w1.alloc (.cells cs T)).alloc o).grownBy w2 v.ownBlock) (hx : cs[i]? = some x := by rfl) : w2.cell? ⟨w1.heap.size, i, none⟩ = some x := by
  refine hg.cell ?_ ?_
  · rw [World.cell?_of_block (w := w1.alloc (.cells cs T)) (Below.heap_alloc _ _ _ (by simp)), cell_of_row _ _ _ cs T (0, 0) (heap_alloc_new w1 _)]
    exact hx
  · intro e
    have := (hown.lt _ e.symm).2
    simp at this
    omega
theorem rel_app2 {w wr w1 w2 : World} {v v1 : Value} {ts : List Tok} {t : Tok} {o o' : Obj} (hown : wr.ownsRow w.heap.size 25 4 v ts.length (ts.flatMap tokC)) (hbel : Below w.heap.size w wr) (hb1 : Below wr.heap.size wr w1)
    (hown1 : w2.ownsRow w.heap.size 25 4 v1 (ts.length + 1) (ts.flatMap tokC ++ tokC t)) (hg : ((w1.alloc o).alloc o').grownBy w2 v.ownBlock) :
    w2.ownsRow w.heap.size 25 4 v1 (ts ++ [t]).length ((ts ++ [t]).flatMap tokC) ∧ Below w.heap.size w w2 :=
  ⟨by simpa using hown1, (((below_trans' hbel hbel.size hb1).alloc (Nat.le_trans hbel.size hb1.size) o).alloc (by have := hbel.size; have := hb1.size; simp; omega) o').grown hg (by have := hbel.size; have := hb1.size; simp; omega) (fun k hk => (hown.lt k hk).1)⟩
def LexRel (l : List UInt8) (w : World) (v i : Value) (wr : World) : Prop :=
  ∃ (a : Nat) (ts : List Tok), a ≤ l.length ∧ i = .int .i64 a ∧ ts.length ≤ a ∧ wr.ownsRow w.heap.size 25 4 v ts.length (ts.flatMap tokC) ∧
    Below w.heap.size w wr ∧ Hid (lexP 0 l = (lexP a (l.drop a)).pre ts)

set_option maxHeartbeats 1000000 in
theorem lex_any (l : List UInt8) (w : World) (hl : l.length ≤ 9223372036854775807) :
    Calls Try.prog 11 #[.string ⟨l.toArray⟩] w fun e w' => LexPost w w' (lexTop l) e := by
  obtain ⟨i0, hi0, hz0, hz1, hz2⟩ := info_parts info25
  by_cases h2 : l.length ≤ 2000
  · have hres : lexTop l = lexP 0 l := by simp [lexTop, h2]
    rw [hres]
    clear hres
    go_enter Try.func11, Try.ntmps11
    go_wp2_with fail
    go_loopw [5, 6] (fun v i wr => LexRel l w v i wr) (fun _ i _ => l.length + 1 - (intOf i).toNat)
    case atStart => exact ⟨0, [], by omega, rfl, by simp, World.ownsRow_nil _ _ _ _, Below.refl _ _, by simp [Res.pre, Hid]; cases lexP 0 l <;> rfl⟩
    case round =>
      obtain ⟨a, ts, ha, rfl, hta, hown, hbel, hh⟩ := hrel
      have hsp := spanN_le isBlank (l.drop a)
      have HX := Lib.hid (lexP_span (l.drop a) a)
      simp only [List.length_drop] at hsp
      go_wp2_with fail
      refine (span_any (l.drop a) isBlank 23 _ (by simp; omega) cf23 blank_any).mono ?_
      rintro e w' ⟨rfl, rfl⟩
      generalize hb : spanN isBlank (l.drop a) = b at *
      have HB := Lib.hid hb
      clear hb
      by_cases heq : a + b = l.length
      · have hbe : ((a : Int) + (b : Int) == (l.length : Int)) = true := by simp; omega
        have HEQ := Lib.hid heq
        clear heq
        go_wp2_with (at_builtin; refine wpList_append_own _ rfl (.tmp 22) (.tmp 25) 22 rfl w.heap.size 25 i0 _ 4 40 Try.underlying22 hi0 hz0 hz1 hz2 rfl (by decide) u5 ts.length _ rfl (hown.alloc _) ⟨wr.heap.size, 0, none⟩ 1 1 (tokC ⟨3, [], 0, a + b⟩) rfl rfl (cells_new _ _ _ _ rfl) (tok_one _) (by simp only [maxLen]; omega) (by omega) (by have := hbel.size; simp; omega) ?_; intro v1 w1 hown1 hg1 _; have ⟨HO, HBE⟩ := rel_app hown hbel hown1 hg1; clear hown1 hg1)
        go_ret3
        refine ⟨HBE, ?_⟩
        rw [hh.out, HX.out, List.drop_drop, List.drop_of_length_le (by have := HEQ.out; omega), lexP_nil]
        exact ⟨v1, rfl, HO⟩
      · have hbe : ((a : Int) + (b : Int) == (l.length : Int)) = false := by simp; omega
        have hlt : a + b < l.length := by omega
        clear heq
        have hne : l.drop (a + b) ≠ [] := by simp; omega
        go_wp2_with fail
        refine (next_ne (l.drop (a + b)) _ hne (by simp; omega)).mono ?_
        rintro e w1 ⟨rfl, hb1⟩
        cases hn : nextP (l.drop (a + b)) with
        | error er =>
          have her := nextP_err hne hn
          have hb2 : (er != 0) = true := by simp; omega
          have HNX := Lib.hid hn
          clear hn her hne
          simp only [nextVal, tokV]
          go_wp2_with fail
          go_ret3
          refine ⟨(below_trans' hbel hbel.size hb1).alloc (Nat.le_trans hbel.size hb1.size) _, ?_⟩
          rw [hh.out, lexP_step HX.out (lexP_at_err HB.out hlt HNX.out)]
          exact rfl
        | ok t =>
          have hlen := nextP_len hn
          have hl1 := hlen.1
          have hl2 : t.text.length ≤ l.length - (a + b) := by simpa using hlen.2
          have HNX := Lib.hid hn
          clear hn hne hlen
          simp only [nextVal, tokV]
          have hw1 := hbel.size
          have hw2 := hb1.size
          go_wp2_with (at_builtin; refine wpList_append_own _ rfl (.tmp 40) (.tmp 42) 22 rfl w.heap.size 25 i0 _ 4 40 Try.underlying22 hi0 hz0 hz1 hz2 rfl (by decide) u5 ts.length _ rfl (((own_below hown hb1).alloc _).alloc _) ⟨w1.heap.size + 1, 0, none⟩ 1 1 (tokC { t with pos := a + b }) rfl rfl (cells_new2 _ _ _ _ _ rfl) (tok_one _) (by simp only [maxLen]; omega) (by omega) (by simp; omega) ?_; intro v2 w2 hown2 hg2 _; have hc2 := cell_kept (i := 1) hown hw2 hg2; have ⟨HO, HBE⟩ := rel_app2 hown hbel hb1 hown2 hg2; clear hown2 hg2)
          refine ⟨⟨a + b + t.text.length, ts ++ [{ t with pos := a + b }], by omega, by simp, by simp; omega, HO, HBE, ?_⟩, by simp [intOf]; omega⟩
          show lexP 0 l = _
          rw [hh.out, lexP_step HX.out (lexP_at_tok HB.out hlt HNX.out), Res.pre_cons, Int.natCast_add]
  · have hres : lexTop l = .err 0 6 := by simp [lexTop, h2]
    rw [hres]
    clear hres
    go_enter Try.func11, Try.ntmps11
    go_wp2_with fail
    go_ret3
    exact ⟨Below.refl _ _, rfl⟩
end Go.Proofs.Ytdmecoagiboieaa
