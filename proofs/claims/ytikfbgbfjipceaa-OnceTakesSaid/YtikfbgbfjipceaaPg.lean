/-
  Plain law of OnceDrops (layer 32).
-/
import Derived.Test.YtikfbgbfjipceaaPe
namespace Go.Proofs.Ytikfbgbfjipceaa
theorem take_low_mono (low : Int) (rs : List Rg) (x a b : Int) (hr : rightB low rs = true) (h0 : 0 ≤ x) (h1 : x < 1099511627776) (ha : 0 ≤ a) (hab : a ≤ b) : (takeP low rs x b).low ≤ (takeP low rs x a).low := by
  cases hin : inB low rs x
  · obtain ⟨e, hw⟩ := take_good low rs x a hr h0 h1 ha hin
    obtain ⟨e2, _⟩ := take_good low rs x b hr h0 h1 (by omega) hin
    rw [e, e2]
    exact drop_mono a b ha hab _ low hw
  · have oa : (takeP low rs x a).ok = false := by rw [take_ok low rs x a hr h0 h1 ha, hin]; rfl
    have ob : (takeP low rs x b).ok = false := by rw [take_ok low rs x b hr h0 h1 (by omega), hin]; rfl
    rw [(take_bad low rs x a oa).1, (take_bad low rs x b ob).1]
    exact Int.le_refl _
structure DropsOk (low : Int) (rs : List Rg) (x p : Int) (a b c : Tk) : Prop where
  oa : a.ok = !hasB low rs x
  ob : b.ok = !hasB low rs x
  oc : c.ok = !hasB low rs x
  ra : rightB a.low a.rs = true
  rb : rightB b.low b.rs = true
  rc : rightB c.low c.rs = true
  le : b.low ≤ a.low
  cb : hasB c.low c.rs p = true → hasB b.low b.rs p = true
  ba : hasB b.low b.rs p = true → hasB a.low a.rs p = true
  ac : hasB a.low a.rs p = true → hasB c.low c.rs p = true ∨ p < a.low
  la : a.rs.length ≤ rs.length + 1
  lb : b.rs.length ≤ rs.length + 1
  lc : c.rs.length ≤ rs.length + 1
theorem drops_plain (low : Int) (rs : List Rg) (x most more p : Int) (hr : rightB low rs = true) (hl : rs.length ≤ 40) (h0 : 0 ≤ x) (h1 : x < 65536) (hm : 0 ≤ most) (hm2 : 0 ≤ more) :
    DropsOk low rs x p (takeP low rs x most) (takeP low rs x (most + more)) (takeP low rs x 100) := by
  have fa := take_facts low rs x most hr h0 (by omega) hm
  have fb := take_facts low rs x (most + more) hr h0 (by omega) (by omega)
  have fc := take_facts low rs x 100 hr h0 (by omega) (by omega)
  have gc := take_few low rs x 100 hr h0 (by omega) (by omega) p
  have hh : hasB low rs x = inB low rs x := by rw [hasB, hr]; rfl
  have hle := take_low_mono low rs x most (most + more) hr h0 (by omega) hm (by omega)
  refine ⟨?_, ?_, ?_, fa.1, fb.1, fc.1, hle, ?_, ?_, ?_, take_len _ _ _ _ hr, take_len _ _ _ _ hr, take_len _ _ _ _ hr⟩
  · rw [hh]; exact take_ok low rs x most hr h0 (by omega) hm
  · rw [hh]; exact take_ok low rs x _ hr h0 (by omega) (by omega)
  · rw [hh]; exact take_ok low rs x _ hr h0 (by omega) (by omega)
  · rw [hasB, hasB, fb.1, fc.1, gc, fb.2.2.1 p]
    simp only [Bool.true_and, Bool.or_eq_true]
    exact Or.inl
  · rw [hasB, hasB, fb.1, fa.1, fa.2.2.1 p, fb.2.2.1 p]
    simp only [Bool.true_and, Bool.or_eq_true, decide_eq_true_eq]
    rintro (h | h)
    · exact Or.inl h
    · exact Or.inr (by omega)
  · rw [hasB, hasB, fc.1, fa.1, gc, fa.2.2.1 p]
    simp only [Bool.true_and, Bool.or_eq_true, decide_eq_true_eq]
    exact id
end Go.Proofs.Ytikfbgbfjipceaa
