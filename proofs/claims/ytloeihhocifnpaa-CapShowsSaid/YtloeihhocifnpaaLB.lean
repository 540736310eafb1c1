/- What the document says bit by bit, as quotients and remainders; plain Lean, no program in sight. Conditions: the numbers lie in their kinds' ranges where a theorem says so. -/
import Derived.Test.YtloeihhocifnpaaL0
set_option linter.unusedVariables false
set_option linter.unusedSimpArgs false
namespace Go.Sx.A
open Go Go.Sx

theorem halves_eq {w : Nat} (hw : w < 18446744073709551616) : ∀ j, halves (w : Int) j = ((w / 2 ^ j : Nat) : Int)
  | 0 => by simp [halves]
  | j + 1 => by
    have hle : w / 2 ^ j ≤ w := Nat.div_le_self _ _
    rw [halves, halves_eq hw j]
    have e : ((w / 2 ^ j : Nat) : Int).tdiv 2 = ((w / 2 ^ j / 2 : Nat) : Int) := rfl
    have h2 : w / 2 ^ j / 2 ≤ w := Nat.le_trans (Nat.div_le_self _ _) hle
    rw [e, wrap_u64_id (Int.natCast_nonneg _) (by omega), Nat.div_div_eq_div_mul, ← Nat.pow_succ]
theorem bitI_eq {w : Nat} (hw : w < 18446744073709551616) (j : Nat) : bitI (w : Int) j = Nat.testBit w j := by
  have e : ((w / 2 ^ j : Nat) : Int).tmod 2 = ((w / 2 ^ j % 2 : Nat) : Int) := rfl
  rw [bitI, halves_eq hw, e, Nat.testBit_eq_decide_div_mod_eq]
  by_cases h : w / 2 ^ j % 2 = 1
  · simp [h]
  · have : w / 2 ^ j % 2 = 0 := by omega
    simp [this]
theorem word_step {f : Nat → Bool} {w : Nat} (hw : w < 18446744073709551616) (hf : ∀ j, j < 64 → f j = Nat.testBit w j) : ∀ i, i ≤ 64 → word67 f i = ((w / 2 ^ (64 - i) : Nat) : Int)
  | 0, _ => by
    have : w / 2 ^ 64 = 0 := Nat.div_eq_of_lt (by simpa using hw)
    simp only [word67, Nat.sub_zero, this]
    rfl
  | i + 1, h => by
    have ih := word_step hw hf i (by omega)
    have hc := cd67_eq (n := i) (by omega)
    have hs : sel67 f (cd67 i).toNat = Nat.testBit w (63 - i) := by
      have e : (cd67 i).toNat = 63 - i := by rw [hc]; omega
      rw [e, ← hf (63 - i) (by omega)]
      unfold sel67
      have : 63 - i < 64 := by omega
      simp [List.getD_eq_getElem?_getD, this]
    have hp : 2 ^ (64 - i) = 2 ^ (63 - i) * 2 := by rw [← Nat.pow_succ]; congr 1; omega
    have hq : w / 2 ^ (64 - i) = w / 2 ^ (63 - i) / 2 := by rw [hp, Nat.div_div_eq_div_mul]
    have hle : w / 2 ^ (63 - i) ≤ w := Nat.div_le_self _ _
    rw [word67, ih, hs, Nat.testBit_eq_decide_div_mod_eq, show 64 - (i + 1) = 63 - i by omega, hq]
    generalize w / 2 ^ (63 - i) = q at *
    rw [wrap_u64_id (x := ((q / 2 : Nat) : Int) * 2) (by omega) (by omega), wrap_u64_id (by omega) (by omega), cnd_eq]
    by_cases hb : q % 2 = 1
    · simp only [hb, decide_true, if_true]; omega
    · simp only [hb, decide_false, Bool.false_eq_true, if_false]; omega
theorem wordI_eq {f : Nat → Bool} {w : Nat} (hw : w < 18446744073709551616) (hf : ∀ j, j < 64 → f j = Nat.testBit w j) : wordI f = w := by
  have := word_step hw hf 64 (Nat.le_refl _)
  rw [Nat.sub_self, Nat.pow_zero, Nat.div_one] at this
  exact this
theorem downI_eq {w : Nat} (hw : w < 18446744073709551616) (n : Int) : downI (w : Int) n = ((w / 2 ^ (min n.toNat 64) * 2 ^ (min n.toNat 64) : Nat) : Int) := by
  generalize hN : min n.toNat 64 = N
  have hle : w / 2 ^ N * 2 ^ N ≤ w := Nat.div_mul_le_self _ _
  refine wordI_eq (by omega) fun j hj => ?_
  rw [down72, hN, bitI_eq hw]
  have e : w / 2 ^ N * 2 ^ N = (w >>> N) <<< N := by rw [Nat.shiftLeft_eq, Nat.shiftRight_eq_div_pow]
  rw [e, Nat.testBit_shiftLeft, Nat.testBit_shiftRight]
  by_cases h : j < N
  · have : ¬ j ≥ N := by omega
    simp [h, this]
  · have h2 : j ≥ N := by omega
    simp only [h, if_false, h2, decide_true, Bool.true_and]
    congr 1
    omega
theorem getI_eq {w : Nat} (hw : w < 18446744073709551616) {lo wi : Int} (h0 : 0 ≤ lo) (h1 : lo + wi ≤ 64) : getI (w : Int) lo wi = ((w / 2 ^ lo.toNat % 2 ^ wi.toNat : Nat) : Int) := by
  have hle : w / 2 ^ lo.toNat % 2 ^ wi.toNat ≤ w := Nat.le_trans (Nat.mod_le _ _) (Nat.div_le_self _ _)
  refine wordI_eq (by omega) fun j hj => ?_
  rw [get54, Nat.testBit_mod_two_pow, ← Nat.shiftRight_eq_div_pow, Nat.testBit_shiftRight, bitI_eq hw]
  by_cases h : j < wi.toNat <;> simp [h]
/-- With the lowest bits struck. -/
theorem andNot_ones {w : Nat} (hw : w < 18446744073709551616) {n : Int} (h0 : 0 ≤ n) (h1 : n ≤ 63) : Go.bits .andNot .u64 (w : Int) (f58_1 n) = ((w / 2 ^ n.toNat * 2 ^ n.toNat : Nat) : Int) := by
  have hp := p26_eq (n := n.toNat) (by omega)
  have hpos : 0 < 2 ^ n.toNat := Nat.pow_pos (by omega)
  have hle : 2 ^ n.toNat ≤ 2 ^ 63 := Nat.pow_le_pow_right (by omega) (by omega)
  have h63 : (2 : Nat) ^ 63 = 9223372036854775808 := by decide
  have h64 : (2 : Nat) ^ 64 = 18446744073709551616 := by decide
  have e : p26 n.toNat - 1 = ((2 ^ n.toNat - 1 : Nat) : Int) := by rw [hp]; omega
  rw [ones_eq h0 h1, e, u64_andNot_nat w _ hw (by omega)]
  congr 1
  apply Nat.eq_of_testBit_eq
  intro j
  have e1 : 18446744073709551615 - (2 ^ n.toNat - 1) = 2 ^ 64 - ((2 ^ n.toNat - 1) + 1) := by omega
  have e2 : w / 2 ^ n.toNat * 2 ^ n.toNat = (w >>> n.toNat) <<< n.toNat := by rw [Nat.shiftLeft_eq, Nat.shiftRight_eq_div_pow]
  rw [e1, e2, Nat.testBit_and, Nat.testBit_two_pow_sub_succ (by omega), Nat.testBit_two_pow_sub_one, Nat.testBit_shiftLeft, Nat.testBit_shiftRight]
  by_cases h : j < n.toNat
  · have : ¬ j ≥ n.toNat := by omega
    simp [h, this]
  · have h2 : j ≥ n.toNat := by omega
    have h3 : n.toNat + (j - n.toNat) = j := by omega
    simp only [h, h2, h3, decide_true, decide_false, Bool.not_false, Bool.and_true, Bool.true_and]
    by_cases h4 : j < 64
    · simp [h4]
    · have : w.testBit j = false := Nat.testBit_lt_two_pow (Nat.lt_of_lt_of_le (by omega) (Nat.pow_le_pow_right (n := 2) (i := 64) (by omega) (by omega)))
      simp [this]
end Go.Sx.A
