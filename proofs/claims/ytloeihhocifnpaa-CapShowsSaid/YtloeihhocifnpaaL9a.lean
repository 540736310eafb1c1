/- Plain facts on a law of this seat; plain Lean, no program in sight. Conditions: the numbers lie in their kinds' ranges where a theorem says so. -/
import Derived.Test.YtloeihhocifnpaaL8
import Derived.Test.YtloeihhocifnpaaK2
set_option linter.unusedVariables false
set_option linter.unusedSimpArgs false
namespace Go.Sx.A
open Go Go.Sx Go.Proofs
theorem kinds_bits {k b : Int} (h : f57_1 k b = true) : (k = 1 → 5 ≤ b ∧ b ≤ 32) ∧ (k = 3 → b = 12 ∨ b = 21 ∨ b = 30) ∧ (f30_0 k b < 0 → k = 0 ∨ k = 6) ∧ (k = 0 ∨ k = 6 → f30_0 k b < 0) := by
  revert h
  simp only [f57_1, f59_0, f59_1, f30_0, cnd_eq]
  grind (splits := 60) [wrap_i64]
theorem level_bits {b : Int} (h : b = 12 ∨ b = 21 ∨ b = 30) : f36_0 (f59_0 b) = b := by
  rcases h with rfl | rfl | rfl <;> decide +kernel
/-- None is told just of those that are not right, and of kinds without an object. -/
theorem none_eq {k a b r g s m : Int} (h1 : 0 ≤ a ∧ a < 18446744073709551616) (h2 : -9223372036854775808 ≤ b ∧ b < 9223372036854775808) (h4 : g < 9223372036854775808) (h6 : 0 ≤ m ∧ m < 18446744073709551616) :
    f35_0 k a b r g s m = cnd (cnd (!f16_2 k a b r g s m) true (k == 0)) true (k == 6) := by
  have e := right_eq (k := k) (r := r) (s := s) h1.1 h1.2 h2 h6.1 h6.2 h4
  unfold f35_0 f31_0
  rw [← e]
  cases hr : f17_1 k a b r g s m with
  | false => rfl
  | true =>
    obtain ⟨q1, q2, q3⟩ := right_size' hr
    obtain ⟨_, _, p3, p4⟩ := kinds_bits q1
    simp only [q1, q2, Bool.not_true, cnd_eq, Bool.false_eq_true, if_false]
    by_cases hz : f30_0 k b < 0
    · have := p3 hz
      rcases this with rfl | rfl <;> simp [hz]
    · have n0 : ¬ k = 0 := fun e => hz (p4 (.inl e))
      have n6 : ¬ k = 6 := fun e => hz (p4 (.inr e))
      simp [hz, n0, n6]
theorem guard_zero {k a b r g s m : Int} (h : f16_2 k a b r g s m = true) (hk : k = 10) : g = 0 := by
  subst hk
  revert h
  simp only [f16_2, f48_5, cnd_eq]
  grind
theorem rights_zero {k a b r g s m : Int} (h : f16_2 k a b r g s m = true) (hk : k = 4) : r = 0 := by
  subst hk
  revert h
  simp only [f16_2, cnd_eq]
  grind
end Go.Sx.A
