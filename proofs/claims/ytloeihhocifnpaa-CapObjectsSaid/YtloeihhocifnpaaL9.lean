/- Plain facts on a law of this seat; plain Lean, no program in sight. Conditions: the numbers lie in their kinds' ranges where a theorem says so. -/
import Derived.Test.YtloeihhocifnpaaL9a
import Derived.Test.YtloeihhocifnpaaK2
set_option linter.unusedVariables false
set_option linter.unusedSimpArgs false
namespace Go.Sx.A
open Go Go.Sx Go.Proofs
section
variable {k a b r g s m : Int} (h1 : 0 ≤ a ∧ a < 18446744073709551616) (h2 : -9223372036854775808 ≤ b ∧ b < 9223372036854775808) (h4 : g < 9223372036854775808) (h6 : 0 ≤ m ∧ m < 18446744073709551616)
include h1 h2 h4 h6
theorem t9x0 (p0 : f35_0 k a b r g s m = true) : f9x0_2 k a b r g s m = true := by
  have hc := none_eq (k := k) (r := r) (s := s) h1 h2 h4 h6
  simp only [f9x0_2, ← hc, p0, ct]
theorem right_of (p0 : f35_0 k a b r g s m = false) : f57_1 k b = true := by
  have e := right_eq (k := k) (r := r) (s := s) h1.1 h1.2 h2 h6.1 h6.2 h4
  have hr : f17_1 k a b r g s m = true := by
    cases hh : f17_1 k a b r g s m with
    | true => rfl
    | false => rw [f35_0, hh] at p0; cases p0
  exact (right_size' hr).1
theorem t9x1 (p0 : f35_0 k a b r g s m = false) (p1 : f35_1 k a b r g s m = true) : f9x1_2 k a b r g s m = true := by
  have hc := none_eq (k := k) (r := r) (s := s) h1 h2 h4 h6
  have hk : (k == 1) = true := p1
  obtain ⟨q1, q2⟩ := (kinds_bits (right_of h1 h2 h4 h6 p0)).1 (by simpa using hk)
  have e1 : f35_2 k a b r g s m = p26 b.toNat := by
    rw [f35_2, ones_eq (by omega) (by omega)]
    have hle := p26_le (n := b.toNat) (m := 32) (by omega) (by omega)
    have h32 : p26 32 = 4294967296 := by decide +kernel
    have hpos := p26_pos (n := b.toNat) (by omega)
    rw [wrap_u64_id (by omega) (by omega)]
    omega
  simp only [f9x1_2, ← hc, p0, ct, cf, hk, e1, beq_self_eq_true, Bool.and_true]
theorem t9x2 (p0 : f35_0 k a b r g s m = false) (p1 : f35_1 k a b r g s m = false) (p3 : f35_3 k a b r g s m = true) : f9x2_2 k a b r g s m = true := by
  have hc := none_eq (k := k) (r := r) (s := s) h1 h2 h4 h6
  have hk1 : (k == 1) = false := p1
  have hk : (k == 2) = true := p3
  simp only [f9x2_2, ← hc, p0, ct, cf, hk1, hk, beq_self_eq_true, Bool.and_true]
theorem t9x3 (p0 : f35_0 k a b r g s m = false) (p1 : f35_1 k a b r g s m = false) (p3 : f35_3 k a b r g s m = false) (p4 : f35_4 k a b r g s m = true) (hg : f16_2 k a b r g s m = true → k = 10 → g = 0) : f9x3_2 k a b r g s m = true := by
  have hc := none_eq (k := k) (r := r) (s := s) h1 h2 h4 h6
  have hk1 : (k == 1) = false := p1
  have hk2 : (k == 2) = false := p3
  have hk : (k == 10) = true := p4
  have hr : f16_2 k a b r g s m = true := by
    cases hh : f16_2 k a b r g s m with
    | true => rfl
    | false => rw [hc, hh] at p0; cases p0
  have hg := hg hr (by simpa using hk)
  subst hg
  simp only [f9x3_2, ← hc, p0, ct, cf, hk1, hk2, hk, beq_self_eq_true, Bool.and_true]
theorem t9x4 (p0 : f35_0 k a b r g s m = false) (p1 : f35_1 k a b r g s m = false) (p3 : f35_3 k a b r g s m = false) (p4 : f35_4 k a b r g s m = false) (p5 : f35_5 k a b r g s m = true) : f9x4_2 k a b r g s m = true := by
  have hc := none_eq (k := k) (r := r) (s := s) h1 h2 h4 h6
  have hk1 : (k == 1) = false := p1
  have hk2 : (k == 2) = false := p3
  have hk10 : (k == 10) = false := p4
  have hk : (k == 3) = true := p5
  have hk3 : k = 3 := by simpa using hk
  have hk4 : (k == 4) = false := by subst hk3; rfl
  have hb := level_bits ((kinds_bits (right_of h1 h2 h4 h6 p0)).2.1 hk3)
  simp only [f9x4_2, ← hc, p0, ct, cf, hk1, hk2, hk10, hk, hk4, f35_6, hb, beq_self_eq_true]
theorem t9x5 (p0 : f35_0 k a b r g s m = false) (p1 : f35_1 k a b r g s m = false) (p3 : f35_3 k a b r g s m = false) (p4 : f35_4 k a b r g s m = false) (p5 : f35_5 k a b r g s m = false) (p7 : f35_7 k a b r g s m = true) (hr0 : f16_2 k a b r g s m = true → k = 4 → r = 0) : f9x5_2 k a b r g s m = true := by
  have hc := none_eq (k := k) (r := r) (s := s) h1 h2 h4 h6
  have hk1 : (k == 1) = false := p1
  have hk2 : (k == 2) = false := p3
  have hk10 : (k == 10) = false := p4
  have hk3 : (k == 3) = false := p5
  have hk : (k == 4) = true := by
    cases hh : (k == 4) with
    | true => rfl
    | false => rw [f35_7, hh] at p7; cases p7
  have hs : (s != 0) = true := by rw [f35_7, hk, ct] at p7; exact p7
  have hr : f16_2 k a b r g s m = true := by
    cases hh : f16_2 k a b r g s m with
    | true => rfl
    | false => rw [hc, hh] at p0; cases p0
  have hr0 := hr0 hr (by simpa using hk)
  subst hr0
  simp only [f9x5_2, ← hc, p0, ct, cf, hk1, hk2, hk10, hk3, hk, hs, beq_self_eq_true]
theorem t9x6 (p0 : f35_0 k a b r g s m = false) (p1 : f35_1 k a b r g s m = false) (p3 : f35_3 k a b r g s m = false) (p4 : f35_4 k a b r g s m = false) (p5 : f35_5 k a b r g s m = false) (p7 : f35_7 k a b r g s m = false) : f9x6_2 k a b r g s m = true := by
  have hc := none_eq (k := k) (r := r) (s := s) h1 h2 h4 h6
  have hk1 : (k == 1) = false := p1
  have hk2 : (k == 2) = false := p3
  have hk10 : (k == 10) = false := p4
  have hk3 : (k == 3) = false := p5
  have h7 : cnd (k == 4) (s != 0) false = false := p7
  simp only [f9x6_2, ← hc, p0, ct, cf, hk1, hk2, hk10, hk3, h7, beq_self_eq_true]
end
end Go.Sx.A
