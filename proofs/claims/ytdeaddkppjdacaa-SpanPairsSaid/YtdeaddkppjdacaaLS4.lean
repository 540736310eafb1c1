/- Plain facts on a law of this seat; plain Lean, no program in sight. Conditions: the numbers lie in their kinds' ranges where a theorem says so. -/
import Derived.Test.YtdeaddkppjdacaaK1
set_option linter.unusedVariables false
set_option linter.unusedSimpArgs false
namespace Go.Sx.S
open Go Go.Sx Go.Proofs
theorem r11 (f t : Int) : f11_0 f t = f12_0 f t := by simp [f11_0, f12_0, cnd_eq]
theorem r13 (f t f2 t2 : Int) : f13_0 f t f2 t2 = f14_0 f t f2 t2 := by
  rw [Bool.eq_iff_iff]
  simp only [f13_0, f14_0, f11_0, f12_0, f18_0, cnd_eq]
  grind (splits := 40)
theorem r13s (f t f2 t2 : Int) : f13_0 f t f2 t2 = f13_0 f2 t2 f t := by
  rw [Bool.eq_iff_iff]
  simp only [f13_0, f11_0, cnd_eq]
  grind (splits := 40)
theorem r15 {f t f2 t2 : Int} (hf : 0 ≤ f) (ht : t < 18446744073709551616) : f15_0 f t f2 t2 = f16_0 f t f2 t2 := by
  by_cases h : f < t
  · have hw : IntKind.u64.wrap (t - 1) = t - 1 := by rw [wrap_u64]; omega
    rw [Bool.eq_iff_iff]
    simp only [f15_0, f16_0, f11_0, f12_0, f18_0, cnd_eq, hw]
    grind (splits := 40)
  · simp [f15_0, f16_0, f11_0, f12_0, cnd_eq, h]
theorem r17 (f t a : Int) : f17_0 f t a = f18_0 f t a := by simp [f17_0, f18_0, cnd_eq]
theorem e4_true {f t f2 t2 a : Int} (hf : 0 ≤ f) (ht : t < 18446744073709551616) : e4_0 f t f2 t2 a = true := by
  unfold e4_0
  rw [r11 f t, r15 (f2 := f2) (t2 := t2) hf ht, r17 f t a, r13s f2 t2 f t, ← r13 f t f2 t2]
  have key : cnd (cnd (cnd (!f16_0 f t f2 t2) true !f18_0 f t a) true (f17_0 f2 t2 a)) (cnd (cnd (!f18_0 f t a) true !f17_0 f2 t2 a) true (f13_0 f t f2 t2)) false = true := by
    rw [← r15 (f2 := f2) (t2 := t2) hf ht]
    simp only [f15_0, f18_0, f17_0, f13_0, f11_0, cnd_eq]
    grind (splits := 60)
  rw [key]
  simp [cnd_eq]
end Go.Sx.S
