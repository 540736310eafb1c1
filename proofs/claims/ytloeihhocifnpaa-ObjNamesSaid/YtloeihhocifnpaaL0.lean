/- Plain facts on words of 64 bits; plain Lean, no program in sight. Conditions: the numbers lie in their kinds' ranges where a theorem says so. -/
import Derived.Test.YtloeihhocifnpaaK1
import Derived.Laws.BitsAllLaws
set_option linter.unusedVariables false
set_option linter.unusedSimpArgs false
namespace Go.Sx.A
open Go Go.Sx

theorem u64_range {n : Int} (h : (Lit.int .u64 n).wf = true) : 0 ≤ n ∧ n < 18446744073709551616 := by
  simp only [Lit.wf, Bool.and_eq_true, decide_eq_true_eq] at h
  have e1 : IntKind.u64.min = 0 := by decide +kernel
  have e2 : IntKind.u64.max = 18446744073709551615 := by decide +kernel
  rw [e1, e2] at h
  omega
theorem i64_range {n : Int} (h : (Lit.int .i64 n).wf = true) : -9223372036854775808 ≤ n ∧ n < 9223372036854775808 := by
  simp only [Lit.wf, Bool.and_eq_true, decide_eq_true_eq] at h
  have e1 : IntKind.i64.min = -9223372036854775808 := by decide +kernel
  have e2 : IntKind.i64.max = 9223372036854775807 := by decide +kernel
  rw [e1, e2] at h
  omega
/-- The word whose lowest bits are 1. -/
theorem ones_eq {n : Int} (h0 : 0 ≤ n) (h1 : n ≤ 63) : f58_1 n = p26 n.toNat - 1 := by
  by_cases h : n < 1
  · have : n = 0 := by omega
    subst this
    decide +kernel
  · have e1 : decide (n < 1) = false := by simpa using h
    have e2 : decide (n ≥ 64) = false := by simp; omega
    have e3 : min n.toNat IntKind.u64.bits = n.toNat := by simp only [IntKind.bits]; omega
    have e4 : (2 : Int) ^ n.toNat = p26 n.toNat := by rw [p26_eq (by omega)]; simp
    have h5 := p26_pos (n := n.toNat) (by omega)
    have h6 : p26 n.toNat < 18446744073709551616 := by unfold p26; omega
    simp only [f58_1, e1, e2, cnd, e3, Int.one_mul, e4]
    rw [wrap_u64_id (x := p26 n.toNat) (by omega) (by omega), wrap_u64_id (by omega) (by omega)]
theorem p26_le {n m : Nat} (h : n ≤ m) (hm : m ≤ 63) : p26 n ≤ p26 m := by
  rw [p26_eq (by omega), p26_eq hm]
  exact Int.ofNat_le.2 (Nat.pow_le_pow_right (by omega) h)
/-- Aligned: the rest of a division is nothing. -/
theorem aligned_eq {a n : Int} (ha : 0 ≤ a) (ha2 : a < 18446744073709551616) (h0 : 0 ≤ n) (h1 : n ≤ 63) : f60_0 a n = (a % p26 n.toNat == 0) := by
  obtain ⟨m, rfl⟩ : ∃ m : Nat, a = m := ⟨a.toNat, by omega⟩
  have hp := p26_eq (n := n.toNat) (by omega)
  have hpos : 0 < 2 ^ n.toNat := Nat.pow_pos (by omega)
  have hle : 2 ^ n.toNat ≤ 2 ^ 63 := Nat.pow_le_pow_right (by omega) (by omega)
  have e : p26 n.toNat - 1 = ((2 ^ n.toNat - 1 : Nat) : Int) := by rw [hp]; omega
  simp only [f60_0, ones_eq h0 h1, e]
  rw [u64_and_nat m _ (by omega) (by have : (2:Nat)^63 = 9223372036854775808 := by decide
                                     omega), Nat.and_two_pow_sub_one_eq_mod, hp]
  rfl
end Go.Sx.A
