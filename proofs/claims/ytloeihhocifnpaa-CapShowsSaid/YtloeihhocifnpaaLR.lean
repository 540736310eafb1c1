/- That the program and the document call the same capabilities right; plain Lean, no program in sight. Conditions: the numbers lie in their kinds' ranges where a theorem says so. -/
import Derived.Test.YtloeihhocifnpaaLB
import Derived.Test.YtloeihhocifnpaaL6
import Derived.Test.YtloeihhocifnpaaL10
set_option linter.unusedVariables false
set_option linter.unusedSimpArgs false
namespace Go.Sx.A
open Go Go.Sx

theorem size_eq (k b : Int) : (f57_1 k b = true ∧ f57_0 k b = f30_0 k b ∧ (f30_0 k b = -1 ∨ (5 ≤ f30_0 k b ∧ f30_0 k b ≤ 32))) ∨ (f57_1 k b = false ∧ f30_0 k b = -2) := by
  simp only [f57_0, f57_1, f59_0, f59_1, f30_0, cnd_eq]
  grind (splits := 60) [wrap_i64]
theorem lies_eq {k a b r g s m : Int} (ha : 0 ≤ a) (ha2 : a < 18446744073709551616) : f51_0 k a b r g s m = f46_1 k a b r g s m := by
  rcases size_eq k b with ⟨h1, h2, h3 | ⟨h3, h4⟩⟩ | ⟨h1, h2⟩
  · simp only [f51_0, f46_1, h1, h2, h3, cnd_eq]
    simp
  · rw [lies_at h1 (by omega) (by omega) ha ha2]
    have hp := p26_eq (n := (f30_0 k b).toNat) (by omega)
    have hle := p26_le (n := (f30_0 k b).toNat) (m := 32) (by omega) (by omega)
    have h32 : p26 32 = 4294967296 := by decide +kernel
    have hpos := p26_pos (n := (f30_0 k b).toNat) (by omega)
    have hdvd : p26 (f30_0 k b).toNat ∣ 4294967296 := by
      rw [hp]
      have : (4294967296 : Int) = ((2 ^ 32 : Nat) : Int) := by decide
      rw [this, Int.natCast_dvd_natCast]
      exact Nat.pow_dvd_pow 2 (by omega)
    have hd : decide (f30_0 k b < 0) = false := by simp; omega
    have htm : a.tmod (p26 (f30_0 k b).toNat) = a % p26 (f30_0 k b).toNat := Int.tmod_eq_emod_of_nonneg ha
    simp only [f46_1, h2, hd, htm, cnd_eq]
    generalize p26 (f30_0 k b).toNat = q at *
    by_cases hal : a % q = 0
    · by_cases hlt : a < 4294967296
      · have hd : q ∣ 4294967296 - a := Int.dvd_sub hdvd (Int.dvd_of_emod_eq_zero hal)
        have hle2 : q ≤ 4294967296 - a := Int.le_of_dvd (by omega) hd
        rw [wrap_u64_id (x := a + q) (by omega) (by omega)]
        simp [hal, hlt]
        omega
      · simp [hal, hlt]
    · simp [hal]
  · have hf : f51_0 k a b r g s m = false := by simp only [f51_0, h1, cnd_eq]; simp
    rw [hf]
    simp only [f46_1, h2, cnd_eq]
    simp
theorem low_eq {m : Int} (hm : 0 ≤ m) : f70_1 m = decide (m < 281474976710656) := by
  have : m.fdiv 281474976710656 = m / 281474976710656 := Int.fdiv_eq_ediv_of_nonneg m (by omega)
  simp only [f70_1, this]
  by_cases h : m < 281474976710656
  · have : m / 281474976710656 = 0 := by omega
    simp [h, this]
  · have : ¬ m / 281474976710656 = 0 := by omega
    simp [h, this]
/-- A level's bits. -/
theorem bits_eq {l : Int} (h0 : 0 ≤ l) (h1 : l < 4) : f36_0 l = 12 + 9 * (3 - l) ∧ f73_2 l = 12 + 9 * (3 - l) := by
  have : l = 0 ∨ l = 1 ∨ l = 2 ∨ l = 3 := by omega
  rcases this with rfl | rfl | rfl | rfl <;> decide +kernel
theorem base_eq {m l : Int} (hm : 0 ≤ m) (hm2 : m < 281474976710656) (h0 : 0 ≤ l) (h1 : l < 4) : f71_0 m l = f69_2 m l := by
  obtain ⟨w, rfl⟩ : ∃ w : Nat, m = w := ⟨m.toNat, by omega⟩
  obtain ⟨e1, e2⟩ := bits_eq h0 h1
  have hk : f74_0 l = true := by simp [f74_0, cnd_eq]; omega
  have ht : ((w : Int)).tmod 281474976710656 = w := by
    rw [Int.tmod_eq_emod_of_nonneg (by omega)]; omega
  have ha : Go.bits Go.BinOp.and IntKind.u64 (w : Int) 281474976710655 = w := by
    have : (281474976710655 : Int) = ((281474976710655 : Nat) : Int) := rfl
    rw [this, u64_and_nat w _ (by omega) (by omega)]
    have e3 : 281474976710655 = 2 ^ 48 - 1 := by decide
    rw [e3, Nat.and_two_pow_sub_one_eq_mod]
    congr 1
    exact Nat.mod_eq_of_lt (by have : (2:Nat)^48 = 281474976710656 := by decide
                               omega)
  have hmin : min (12 + 9 * (3 - l)).toNat 64 = (12 + 9 * (3 - l)).toNat := by omega
  simp only [f71_0, hk, ha, f75_0, e1, f69_2, ht, e2, cnd]
  rw [downI_eq (by omega), hmin]
  exact andNot_ones (by omega) (by omega) (by omega)
theorem place_eq {m l : Int} (hm : 0 ≤ m) (h0 : 0 ≤ l) (h1 : l < 4) : cnd (f70_1 m) (f71_0 m l == m) false = f64_1 m l := by
  rw [low_eq hm, f64_1]
  by_cases h : m < 281474976710656
  · rw [base_eq hm h h0 h1]
  · simp [h, cnd_eq]
theorem below_pow {m g : Int} (hm : 0 ≤ m) (hm2 : m < 18446744073709551616) (h0 : 0 ≤ g) (h1 : g ≤ 63) : (Go.bits Go.BinOp.andNot IntKind.u64 m (f58_1 g) == 0) = decide (m < p26 g.toNat) := by
  obtain ⟨w, rfl⟩ : ∃ w : Nat, m = w := ⟨m.toNat, by omega⟩
  have hpos : 0 < 2 ^ g.toNat := Nat.pow_pos (by omega)
  rw [andNot_ones (by omega) h0 h1, p26_eq (by omega)]
  by_cases h : w < 2 ^ g.toNat
  · have e : w / 2 ^ g.toNat = 0 := Nat.div_eq_of_lt h
    have h' : (w : Int) < ((2 ^ g.toNat : Nat) : Int) := Int.ofNat_lt.2 h
    simp only [e, h', decide_true, Nat.zero_mul]
    rfl
  · have e : 0 < w / 2 ^ g.toNat := Nat.div_pos (by omega) hpos
    have e2 : 0 < w / 2 ^ g.toNat * 2 ^ g.toNat := Nat.mul_pos e hpos
    have h' : ¬ (w : Int) < ((2 ^ g.toNat : Nat) : Int) := fun x => h (Int.ofNat_lt.1 x)
    simp only [h', decide_false]
    generalize w / 2 ^ g.toNat * 2 ^ g.toNat = z at *
    simp
    omega
theorem rights_eq (r : Int) : f50_0 r 3 = (decide (0 ≤ r) && decide (r ≤ 3)) := by
  by_cases h : 0 ≤ r ∧ r ≤ 7
  · have : r = 0 ∨ r = 1 ∨ r = 2 ∨ r = 3 ∨ r = 4 ∨ r = 5 ∨ r = 6 ∨ r = 7 := by omega
    rcases this with rfl | rfl | rfl | rfl | rfl | rfl | rfl | rfl <;> decide +kernel
  · have h1 : f49_0 r = false := by simp [f49_0, cnd_eq]; omega
    simp only [f50_0, h1, cnd]
    simp
    omega
theorem marked_eq {k a b r g s m : Int} (hb : -9223372036854775808 ≤ b ∧ b < 9223372036854775808) (hm : 0 ≤ m) (hm2 : m < 18446744073709551616) (hg : 0 ≤ g) (hg2 : g < 9223372036854775808) (hgk : k = 2 ∨ k = 4 ∨ g = 0)
    (hs : 0 ≤ s) (hsk : k = 3 ∨ k = 4 ∨ k = 5 ∨ s = 0) (hn : f57_1 k b = true) : f52_1 k a b r g s m = f48_5 k a b r g s m := by
  by_cases k1 : k = 1
  · subst k1
    have hb2 : 5 ≤ b ∧ b ≤ 32 := by revert hn; simp [f57_1, cnd_eq]
    have hg0 : g = 0 := by omega
    subst hg0
    have hpos := p26_pos (n := b.toNat) (by omega)
    have hle := p26_le (n := b.toNat) (m := 32) (by omega) (by omega)
    have h32 : p26 32 = 4294967296 := by decide +kernel
    have h5 : p26 (Int.toNat 5) = 32 := by decide +kernel
    have htm : m.tmod 32 = m % 32 := Int.tmod_eq_emod_of_nonneg hm
    simp only [f52_1, f48_5, ones_eq (n := b) (by omega) (by omega), aligned_eq (n := 5) hm hm2 (by omega) (by omega), h5, htm, cnd_eq]
    rw [wrap_u64_id (by omega) (by omega)]
    by_cases hh : m % 32 = 0 <;> simp [hh]
  by_cases k2 : k = 2
  · subst k2
    have hb2 : 1 ≤ b ∧ b ≤ 12 := by revert hn; simp [f57_1, cnd_eq]
    have hw : IntKind.i64.wrap (64 - b) = 64 - b := wrap_i64 (by omega) (by omega)
    simp only [f52_1, f48_5, hw, cnd_eq]
    by_cases hg3 : g ≤ 63
    · rw [below_pow hm hm2 hg hg3]
      grind
    · grind
  by_cases k3 : k = 3
  · subst k3
    have hg0 : g = 0 := by omega
    subst hg0
    have hb2 : b = 12 ∨ b = 21 ∨ b = 30 := by revert hn; simp only [f57_1, f59_0, f59_1, cnd_eq]; grind
    by_cases hs0 : s = 0
    · subst hs0; simp [f52_1, f48_5, f65_0, cnd_eq]
    · have hp : ∀ l, 0 ≤ l → l < 4 → cnd (f70_1 m) (f71_0 m l == m) false = f64_1 m l := fun l h0 h1 => place_eq hm h0 h1
      have e1 : f59_0 12 = 3 := by decide +kernel
      have e2 : f59_0 21 = 2 := by decide +kernel
      have e3 : f59_0 30 = 1 := by decide +kernel
      rcases hb2 with rfl | rfl | rfl
      · simp only [f52_1, f48_5, f65_0, e1, hp 3 (by omega) (by omega)]; simp [cnd_eq, hs0]
      · simp only [f52_1, f48_5, f65_0, e2, hp 2 (by omega) (by omega)]; simp [cnd_eq, hs0]
      · simp only [f52_1, f48_5, f65_0, e3, hp 1 (by omega) (by omega)]; simp [cnd_eq, hs0]
  by_cases k4 : k = 4
  · subst k4
    by_cases hs0 : s = 0
    · subst hs0
      simp only [f52_1, f48_5, f65_0, cnd_eq]
      grind
    · have hw : IntKind.i64.wrap (g - 1) = g - 1 := wrap_i64 (by omega) (by omega)
      by_cases hg1 : 1 ≤ g ∧ g ≤ 3
      · have hp := place_eq (m := m) (l := g - 1) hm (by omega) (by omega)
        simp only [f52_1, f48_5, f65_0, hw, hp]
        simp only [cnd_eq]
        grind
      · simp only [f52_1, f48_5, f65_0, hw, cnd_eq]
        grind
  have hg0 : g = 0 := by omega
  subst hg0
  by_cases k7 : k = 7
  · subst k7; simp [f52_1, f48_5, cnd_eq]
  by_cases k9 : k = 9
  · subst k9; simp [f52_1, f48_5, cnd_eq]
  by_cases k10 : k = 10
  · subst k10
    have hb2 : 1 ≤ b ∧ b ≤ 12 := by revert hn; simp [f57_1, cnd_eq]
    have e3 : min b.toNat IntKind.u64.bits = b.toNat := by simp only [IntKind.bits]; omega
    have e4 : (2 : Int) ^ b.toNat = p26 b.toNat := by rw [p26_eq (by omega)]; simp
    have hpos := p26_pos (n := b.toNat) (by omega)
    have hle := p26_le (n := b.toNat) (m := 32) (by omega) (by omega)
    have h32 : p26 32 = 4294967296 := by decide +kernel
    have e5 : IntKind.u64.wrap (1 * p26 b.toNat) = p26 b.toNat := by rw [Int.one_mul, wrap_u64_id (by omega) (by omega)]
    simp [f52_1, f48_5, cnd_eq, e3, e4]
    rw [wrap_u64_id (by omega) (by omega)]
  · simp [f52_1, f48_5, cnd_eq, k1, k2, k3, k4, k7, k9, k10]
theorem right_eq {k a b r g s m : Int} (ha : 0 ≤ a) (ha2 : a < 18446744073709551616) (hb : -9223372036854775808 ≤ b ∧ b < 9223372036854775808) (hm : 0 ≤ m) (hm2 : m < 18446744073709551616) (hg2 : g < 9223372036854775808) :
    f17_1 k a b r g s m = f16_2 k a b r g s m := by
  by_cases hl : f46_1 k a b r g s m = true
  · have hn : f57_1 k b = true := by
      rcases size_eq k b with ⟨h, _⟩ | ⟨_, h⟩
      · exact h
      · exfalso; revert hl; simp [f46_1, h, cnd_eq]
    by_cases hc : 0 ≤ g ∧ (k = 2 ∨ k = 4 ∨ g = 0) ∧ 0 ≤ s ∧ (k = 3 ∨ k = 4 ∨ k = 5 ∨ s = 0)
    · obtain ⟨c1, c2, c3, c4⟩ := hc
      simp only [f17_1, f16_2, lies_eq ha ha2, hl, marked_eq hb hm hm2 c1 hg2 c2 c3 c4 hn, rights_eq, f47_0, f49_0, cnd_eq]
      generalize f48_5 k a b r g s m = z
      grind (splits := 40)
    · by_cases hgz : 0 ≤ g ∧ (k = 2 ∨ k = 4 ∨ g = 0)
      · have : ¬ (0 ≤ s ∧ (k = 3 ∨ k = 4 ∨ k = 5 ∨ s = 0)) := fun h => hc ⟨hgz.1, hgz.2, h.1, h.2⟩
        simp only [f17_1, f16_2, lies_eq ha ha2, hl, cnd_eq]
        generalize f48_5 k a b r g s m = z
        generalize f52_1 k a b r g s m = z'
        grind (splits := 40)
      · have hz : f48_5 k a b r g s m = false := by
          simp only [f48_5, cnd_eq]
          grind (splits := 40)
        simp only [f17_1, f16_2, lies_eq ha ha2, hl, hz, cnd_eq]
        generalize f52_1 k a b r g s m = z'
        grind (splits := 40)
  · simp only [Bool.not_eq_true] at hl
    simp only [f17_1, f16_2, lies_eq ha ha2, hl, cnd_eq]
    simp
end Go.Sx.A
