/- Plain facts on a law of this seat; plain Lean, no program in sight. Conditions: the numbers lie in their kinds' ranges where a theorem says so. -/
import Derived.Test.YtloeihhocifnpaaL8
set_option linter.unusedVariables false
set_option linter.unusedSimpArgs false
namespace Go.Sx.A
open Go Go.Sx

/-- A field's number read: a quotient's rest. -/
theorem field_get {l d : Int} {w : Nat} (hw : w < 18446744073709551616) (hf : f62_0 l d = true) (h0 : 0 ≤ l) (h1 : l ≤ 63) (h2 : 1 ≤ d) (h3 : d ≤ 63) : f53_1 l d w = ((w / 2 ^ l.toNat % 2 ^ d.toNat : Nat) : Int) := by
  have hp := p26_eq (n := d.toNat) (by omega)
  have hpos : 0 < 2 ^ d.toNat := Nat.pow_pos (by omega)
  have hle : 2 ^ d.toNat ≤ 2 ^ 63 := Nat.pow_le_pow_right (by omega) (by omega)
  have h63 : (2 : Nat) ^ 63 = 9223372036854775808 := by decide
  have e : p26 d.toNat - 1 = ((2 ^ d.toNat - 1 : Nat) : Int) := by rw [hp]; omega
  have e3 : min l.toNat IntKind.u64.bits = l.toNat := by simp only [IntKind.bits]; omega
  have e4 : ((w : Int)).fdiv (2 ^ l.toNat) = ((w / 2 ^ l.toNat : Nat) : Int) := by
    rw [Int.fdiv_eq_ediv_of_nonneg _ (by exact Int.le_of_lt (Int.pow_pos (by omega)))]
    simp
  have hq : w / 2 ^ l.toNat ≤ w := Nat.div_le_self _ _
  have hn : (!f62_0 l d) = false := by rw [hf]; rfl
  simp only [f53_1, hn, cf, e3, e4, ones_eq (n := d) (by omega) h3, e]
  rw [u64_and_nat _ _ (by omega) (by omega), Nat.and_two_pow_sub_one_eq_mod]
/-- A number put into a field of a word that is less than the field's lowest bit. -/
theorem field_put {l d : Int} {w v : Nat} (hf : f62_0 l d = true) (h0 : 0 ≤ l) (h1 : l ≤ 63) (h2 : 1 ≤ d) (h3 : d ≤ 63) (h4 : l + d ≤ 64) (hw : w < 2 ^ l.toNat) (hv : v < 2 ^ d.toNat) :
    f45_1 l d w v = ((w + v * 2 ^ l.toNat : Nat) : Int) := by
  have hp := p26_eq (n := d.toNat) (by omega)
  have hpos : 0 < 2 ^ d.toNat := Nat.pow_pos (by omega)
  have hposl : 0 < 2 ^ l.toNat := Nat.pow_pos (by omega)
  have h64 : (2 : Nat) ^ 64 = 18446744073709551616 := by decide
  have hd : 2 ^ d.toNat ≤ 2 ^ 63 := Nat.pow_le_pow_right (by omega) (by omega)
  have hl : 2 ^ l.toNat ≤ 2 ^ 63 := Nat.pow_le_pow_right (by omega) (by omega)
  have h63 : (2 : Nat) ^ 63 = 9223372036854775808 := by decide
  have hprod : 2 ^ d.toNat * 2 ^ l.toNat ≤ 2 ^ 64 := by rw [← Nat.pow_add]; exact Nat.pow_le_pow_right (by omega) (by omega)
  have e : p26 d.toNat - 1 = ((2 ^ d.toNat - 1 : Nat) : Int) := by rw [hp]; omega
  have e3 : min l.toNat IntKind.u64.bits = l.toNat := by simp only [IntKind.bits]; omega
  have hn : (!f62_0 l d) = false := by rw [hf]; rfl
  have hbel := below_pow (m := v) (g := d) (by omega) (by omega) (by omega) h3
  have hlt : decide ((v : Int) < p26 d.toNat) = true := by rw [hp]; simp only [decide_eq_true_eq]; exact Int.ofNat_lt.2 hv
  rw [hlt] at hbel
  have hne : (Go.bits Go.BinOp.andNot IntKind.u64 (v : Int) (f58_1 d) != 0) = false := by rw [bne, hbel]; rfl
  have hm1 : (2 ^ d.toNat - 1) * 2 ^ l.toNat < 18446744073709551616 := by
    have : (2 ^ d.toNat - 1) * 2 ^ l.toNat < 2 ^ d.toNat * 2 ^ l.toNat := Nat.mul_lt_mul_of_pos_right (by omega) hposl
    omega
  have hv1 : v * 2 ^ l.toNat < 18446744073709551616 := by
    have : v * 2 ^ l.toNat < 2 ^ d.toNat * 2 ^ l.toNat := Nat.mul_lt_mul_of_pos_right hv hposl
    omega
  have emask : f63_1 l d = (((2 ^ d.toNat - 1) * 2 ^ l.toNat : Nat) : Int) := by
    simp only [f63_1, hn, cf, e3, ones_eq (n := d) (by omega) h3, e]
    have : (((2 ^ d.toNat - 1 : Nat) : Int)) * 2 ^ l.toNat = (((2 ^ d.toNat - 1) * 2 ^ l.toNat : Nat) : Int) := by simp
    rw [this, wrap_u64_id (Int.natCast_nonneg _) (by omega)]
  have eshl : IntKind.u64.wrap ((v : Int) * 2 ^ l.toNat) = ((v * 2 ^ l.toNat : Nat) : Int) := by
    have : (v : Int) * 2 ^ l.toNat = ((v * 2 ^ l.toNat : Nat) : Int) := by simp
    rw [this, wrap_u64_id (Int.natCast_nonneg _) (by omega)]
  simp only [f45_1, hn, hne, cf, emask, e3, eshl]
  have hkeep : w &&& (18446744073709551615 - (2 ^ d.toNat - 1) * 2 ^ l.toNat) = w := by
    apply Nat.eq_of_testBit_eq
    intro j
    have e1 : 18446744073709551615 - (2 ^ d.toNat - 1) * 2 ^ l.toNat = 2 ^ 64 - ((2 ^ d.toNat - 1) * 2 ^ l.toNat + 1) := by omega
    rw [e1, Nat.testBit_and, Nat.testBit_two_pow_sub_succ (by omega), ← Nat.shiftLeft_eq, Nat.testBit_shiftLeft]
    by_cases hj : j < l.toNat
    · have h1 : j < 64 := by omega
      have h2 : ¬ j ≥ l.toNat := by omega
      simp [h1, h2]
    · have : w.testBit j = false := Nat.testBit_lt_two_pow (Nat.lt_of_lt_of_le hw (Nat.pow_le_pow_right (by omega) (by omega)))
      simp [this]
  rw [u64_andNot_nat w _ (by omega) (by omega), hkeep, u64_or_nat w _ (by omega) (by omega)]
  congr 1
  rw [Nat.or_comm, Nat.mul_comm, ← Nat.two_pow_add_eq_or_of_lt hw, Nat.add_comm]
end Go.Sx.A
