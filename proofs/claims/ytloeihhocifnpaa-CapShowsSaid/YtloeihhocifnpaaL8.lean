/- That the law CapSizes says true; plain Lean, no program in sight. Conditions: the numbers lie in their kinds' ranges where a theorem says so. -/
import Derived.Test.YtloeihhocifnpaaLR
set_option linter.unusedVariables false
set_option linter.unusedSimpArgs false
namespace Go.Sx.A
open Go Go.Sx

theorem ct {α : Type} (a b : α) : cnd true a b = a := rfl
theorem cf {α : Type} (a b : α) : cnd false a b = b := rfl
theorem right_size' {k a b r g s m : Int} (h : f17_1 k a b r g s m = true) : f57_1 k b = true ∧ f57_0 k b = f30_0 k b ∧ (f30_0 k b = -1 ∨ (5 ≤ f30_0 k b ∧ f30_0 k b ≤ 32)) := by
  rcases size_eq k b with h1 | ⟨h1, _⟩
  · exact h1
  · rw [right_size h1] at h; cases h
/-- Of those with slots: how many bits. -/
theorem slots_bits {k b : Int} (h : f57_1 k b = true) : ((k = 2 ∨ k = 10) → 1 ≤ b ∧ b ≤ 12 ∧ f30_0 k b = b + 5) ∧ (k = 8 → f30_0 k b = 7) := by
  revert h
  simp only [f57_1, f59_0, f59_1, f30_0, cnd_eq]
  grind (splits := 60) [wrap_i64]
theorem pow_slots {b : Int} (h0 : 0 ≤ b) (h1 : b ≤ 12) : IntKind.i64.wrap (1 * 2 ^ min b.toNat IntKind.i64.bits) = p26 b.toNat ∧ IntKind.i64.wrap (p26 b.toNat) = p26 b.toNat ∧ p26 (b + 5).toNat = p26 b.toNat * 32 ∧ 0 < p26 b.toNat ∧ p26 b.toNat ≤ 4096 := by
  have e3 : min b.toNat IntKind.i64.bits = b.toNat := by simp only [IntKind.bits]; omega
  have e4 : (2 : Int) ^ b.toNat = p26 b.toNat := by rw [p26_eq (by omega)]; simp
  have hpos := p26_pos (n := b.toNat) (by omega)
  have hle := p26_le (n := b.toNat) (m := 12) (by omega) (by omega)
  have h12 : p26 12 = 4096 := by decide +kernel
  have e5 : (b + 5).toNat = b.toNat + 5 := by omega
  refine ⟨by rw [e3, e4, Int.one_mul, wrap_i64 (by omega) (by omega)], wrap_i64 (by omega) (by omega), ?_, hpos, by omega⟩
  rw [e5, p26_eq (by omega), p26_eq (by omega), Nat.pow_add]
  simp
theorem f8_true {k a b r g s m : Int} (ha : 0 ≤ a) (ha2 : a < 18446744073709551616) (hb : -9223372036854775808 ≤ b ∧ b < 9223372036854775808) (hm : 0 ≤ m) (hm2 : m < 18446744073709551616) (hg2 : g < 9223372036854775808) :
    f8_0 k a b r g s m ∧ f8_1 k a b r g s m = true := by
  have hR := right_eq (k := k) (r := r) (s := s) ha ha2 hb hm hm2 hg2
  have hb30 := b30 k b
  constructor
  · intro _ h
    refine ⟨fun _ => by omega, fun _ => ?_, fun _ => by omega⟩
    intro hk
    have hr : f17_1 k a b r g s m = true := by
      rw [hR]
      cases hh : f16_2 k a b r g s m with
      | true => rfl
      | false => rw [hh] at h; cases h
    have := (slots_bits (right_size' hr).1).1 (by revert hk; simp only [cnd_eq]; grind)
    omega
  · cases hr : f17_1 k a b r g s m with
    | false =>
      have hr2 := hR.symm.trans hr
      have e1 : f31_0 k a b r g s m = -1 := by simp [f31_0, hr, cnd_eq]
      simp [f8_1, hr2, e1, f32_0, f33_1, hr, cnd_eq]
    | true =>
      have hr2 := hR.symm.trans hr
      obtain ⟨h1, h2, h3⟩ := right_size' hr
      have e1 : f31_0 k a b r g s m = f30_0 k b := by simp [f31_0, hr, h1, h2, cnd_eq]
      obtain ⟨s1, s2⟩ := slots_bits h1
      rcases h3 with h3 | ⟨h3, h4⟩
      · have n2 : ¬ k = 2 := fun h => by have := s1 (.inl h); omega
        have n10 : ¬ k = 10 := fun h => by have := s1 (.inr h); omega
        have n8 : ¬ k = 8 := fun h => by have := s2 h; omega
        simp [f8_1, hr2, e1, h3, f32_0, f33_1, hr, cnd_eq, n2, n10, n8]
      · have hl : f46_1 k a b r g s m = true := by
          cases hh : f46_1 k a b r g s m with
          | true => rfl
          | false => rw [← hr2]; simp [f16_2, hh, cnd_eq]
        have hd : decide (f30_0 k b < 0) = false := by simp; omega
        have hp := p26_eq (n := (f30_0 k b).toNat) (by omega)
        have hle := p26_le (n := (f30_0 k b).toNat) (m := 32) (by omega) (by omega)
        have h32 : p26 32 = 4294967296 := by decide +kernel
        have hpos := p26_pos (n := (f30_0 k b).toNat) (by omega)
        have hend : a < 4294967296 ∧ a + p26 (f30_0 k b).toNat ≤ 4294967296 := by
          revert hl
          simp only [f46_1, hd, cnd_eq]
          intro hl
          have ha3 : a < 4294967296 := by grind
          have : IntKind.u64.wrap (a + p26 (f30_0 k b).toNat) ≤ 4294967296 := by grind
          rw [wrap_u64_id (by omega) (by omega)] at this
          exact ⟨ha3, this⟩
        have e2 : f32_0 k a b r g s m = a + p26 (f30_0 k b).toNat := by
          simp only [f32_0, e1, hd, cnd, ones_eq (n := f30_0 k b) (by omega) (by omega)]
          rw [wrap_u64_id (x := a + (p26 (f30_0 k b).toNat - 1)) (by omega) (by omega), wrap_u64_id (by omega) (by omega)]
          omega
        have e3 : IntKind.u64.wrap (a + p26 (f30_0 k b).toNat) = a + p26 (f30_0 k b).toNat := wrap_u64_id (by omega) (by omega)
        have hle2 : decide (a + p26 (f30_0 k b).toNat ≤ 4294967296) = true := by simp; omega
        have nr : (!f16_2 k a b r g s m) = false := by rw [hr2]; rfl
        simp only [f8_1, nr, hd, e1, e2, e3, hle2, ct, cf, beq_self_eq_true]
        have nr2 : (!f17_1 k a b r g s m) = false := by rw [hr]; rfl
        simp only [f33_1, f34_1, nr2, cf]
        by_cases k2 : k = 2 ∨ k = 10
        · obtain ⟨q1, q2, q3⟩ := s1 k2
          obtain ⟨p1, p2, p3, p4, p5⟩ := pow_slots (b := b) (by omega) q2
          have hk : cnd (k == 2) true (k == 10) = true := by rcases k2 with rfl | rfl <;> rfl
          simp only [hk, ct, p1, p2, q3, p3, beq_self_eq_true]
          rw [wrap_u64_id (x := p26 b.toNat) (by omega) (by omega), wrap_u64_id (x := p26 b.toNat * 32) (by omega) (by omega)]
          simp
        · have hk : cnd (k == 2) true (k == 10) = false := by
            have n2 : (k == 2) = false := by simp; omega
            have n10 : (k == 10) = false := by simp; omega
            rw [n2, n10]; rfl
          simp only [hk, cf]
          by_cases k8 : k = 8
          · subst k8
            have h7 := s2 rfl
            have e7 : p26 (Int.toNat 7) = 128 := by decide +kernel
            have e64 : IntKind.u64.wrap (IntKind.u64.wrap 2 * 32) = 64 := by decide +kernel
            simp only [beq_self_eq_true, ct, h7, e7, e64]
            decide +kernel
          · have n8 : (k == 8) = false := by simp; omega
            have e0 : IntKind.u64.wrap (IntKind.u64.wrap 0 * 32) = 0 := by decide +kernel
            simp only [n8, beq_self_eq_true, ct, cf, e0]
            simp
            omega
end Go.Sx.A
