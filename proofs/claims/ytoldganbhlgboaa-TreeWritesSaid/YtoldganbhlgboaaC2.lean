/- Contracts of the functions of this seat, each by the executor and the kernel; part 2. Their conditions stand in each. -/
import Derived.Test.YtoldganbhlgboaaC1
set_option linter.unusedVariables false
set_option linter.unusedSimpArgs false
namespace Go.Sx.M
open Go Go.Sx

theorem size_eq (k b:Int) : (f172_1 k b = true ∧ f172_0 k b = f176_0 k b ∧ (f176_0 k b = -1 ∨ (5 ≤ f176_0 k b ∧ f176_0 k b ≤ 32))) ∨ (f172_1 k b = false ∧ f176_0 k b = -2) := by
  simp only [f172_0, f172_1, f173_0, f173_1, f176_0, cnd_eq]
  grind (splits := 60) [wrap_i64]
theorem lies_eq {k a b r g s m : Int} (ha : 0 ≤ a) (ha2 : a < 18446744073709551616) : f120_0 k a b r g s m = f127_1 k a b r g s m := by
  rcases size_eq k b with ⟨h1, h2, h3 | ⟨h3, h4⟩⟩ | ⟨h1, h2⟩
  · simp only [f120_0, f127_1, h1, h2, h3, cnd_eq]
    simp
  · rw [lies_at h1 (by omega) (by omega) ha ha2]
    have hp := p26_eq (n := (f176_0 k b).toNat) (by omega)
    have hle := p26_le (n := (f176_0 k b).toNat) (m := 32) (by omega) (by omega)
    have h32 : p26 32 = 4294967296 := by decide +kernel
    have hpos := p26_pos (n := (f176_0 k b).toNat) (by omega)
    have hdvd : p26 (f176_0 k b).toNat ∣ 4294967296 := by
      rw [hp]
      have : (4294967296:Int) = ((2 ^ 32:Nat):Int) := by decide
      rw [this, Int.natCast_dvd_natCast]
      exact Nat.pow_dvd_pow 2 (by omega)
    have hd : decide (f176_0 k b < 0) = false := by simp; omega
    have htm : a.tmod (p26 (f176_0 k b).toNat) = a % p26 (f176_0 k b).toNat := Int.tmod_eq_emod_of_nonneg ha
    simp only [f127_1, h2, hd, htm, cnd_eq]
    generalize p26 (f176_0 k b).toNat = q at *
    by_cases hal : a % q = 0
    · by_cases hlt : a < 4294967296
      · have hd : q ∣ 4294967296 - a := Int.dvd_sub hdvd (Int.dvd_of_emod_eq_zero hal)
        have hle2 : q ≤ 4294967296 - a := Int.le_of_dvd (by omega) hd
        rw [wrap_u64_id (x := a + q) (by omega) (by omega)]
        simp [hal, hlt]
        omega
      · simp [hal, hlt]
    · simp [hal]
  · have hf : f120_0 k a b r g s m = false := by simp only [f120_0, h1, cnd_eq]; simp
    rw [hf]
    simp only [f127_1, h2, cnd_eq]
    simp
theorem low_eq {m : Int} (hm : 0 ≤ m) : f195_1 m = decide (m < 281474976710656) := by
  have : m.fdiv 281474976710656 = m / 281474976710656 := Int.fdiv_eq_ediv_of_nonneg m (by omega)
  simp only [f195_1, this]
  by_cases h : m < 281474976710656
  · have : m / 281474976710656 = 0 := by omega
    simp [h, this]
  · have : ¬ m / 281474976710656 = 0 := by omega
    simp [h, this]
theorem bits_eq {l : Int} (h0 : 0 ≤ l) (h1 : l < 4) : f194_0 l = 12 + 9 * (3 - l) ∧ f213_2 l = 12 + 9 * (3 - l) := by
  have : l = 0 ∨ l = 1 ∨ l = 2 ∨ l = 3 := by omega
  rcases this with rfl | rfl | rfl | rfl <;> decide +kernel
theorem base_eq {m l : Int} (hm : 0 ≤ m) (hm2 : m < 281474976710656) (h0 : 0 ≤ l) (h1 : l < 4) : f196_0 m l = f197_2 m l := by
  obtain ⟨w, rfl⟩ : ∃ w : Nat, m = w := ⟨m.toNat, by omega⟩
  obtain ⟨e1, e2⟩ := bits_eq h0 h1
  have hk : f210_0 l = true := by simp [f210_0, cnd_eq]; omega
  have ht : ((w:Int)).tmod 281474976710656 = w := by
    rw [Int.tmod_eq_emod_of_nonneg (by omega)]; omega
  have ha : Go.bits Go.BinOp.and IntKind.u64 (w:Int) 281474976710655 = w := by
    have : (281474976710655:Int) = ((281474976710655:Nat):Int) := rfl
    rw [this, u64_and_nat w _ (by omega) (by omega)]
    have e3 : 281474976710655 = 2 ^ 48 - 1 := by decide
    rw [e3, Nat.and_two_pow_sub_one_eq_mod]
    congr 1
    exact Nat.mod_eq_of_lt (by have : (2:Nat)^48 = 281474976710656 := by decide
                               omega)
  have hmin : min (12 + 9 * (3 - l)).toNat 64 = (12 + 9 * (3 - l)).toNat := by omega
  simp only [f196_0, hk, ha, f211_0, e1, f197_2, ht, e2, cnd]
  rw [downI_eq (by omega), hmin]
  exact andNot_ones (by omega) (by omega) (by omega)
theorem place_eq {m l : Int} (hm : 0 ≤ m) (h0 : 0 ≤ l) (h1 : l < 4) : cnd (f195_1 m) (f196_0 m l == m) false = f177_1 m l := by
  rw [low_eq hm, f177_1]
  by_cases h : m < 281474976710656
  · rw [base_eq hm h h0 h1]
  · simp [h, cnd_eq]
theorem below_pow {m g : Int} (hm : 0 ≤ m) (hm2 : m < 18446744073709551616) (h0 : 0 ≤ g) (h1 : g ≤ 63) : (Go.bits Go.BinOp.andNot IntKind.u64 m (f123_1 g) == 0) = decide (m < p26 g.toNat) := by
  obtain ⟨w, rfl⟩ : ∃ w : Nat, m = w := ⟨m.toNat, by omega⟩
  have hpos : 0 < 2 ^ g.toNat := Nat.pow_pos (by omega)
  rw [andNot_ones (by omega) h0 h1, p26_eq (by omega)]
  by_cases h : w < 2 ^ g.toNat
  · have e : w / 2 ^ g.toNat = 0 := Nat.div_eq_of_lt h
    have h' : (w:Int) < ((2 ^ g.toNat:Nat):Int) := Int.ofNat_lt.2 h
    simp only [e, h', decide_true, Nat.zero_mul]
    rfl
  · have e : 0 < w / 2 ^ g.toNat := Nat.div_pos (by omega) hpos
    have e2 : 0 < w / 2 ^ g.toNat * 2 ^ g.toNat := Nat.mul_pos e hpos
    have h' : ¬ (w:Int) < ((2 ^ g.toNat:Nat):Int) := fun x => h (Int.ofNat_lt.1 x)
    simp only [h', decide_false]
    generalize w / 2 ^ g.toNat * 2 ^ g.toNat = z at *
    simp
    omega
theorem rights_eq (r:Int) : f119_0 r 3 = (decide (0 ≤ r) && decide (r ≤ 3)) := by
  by_cases h : 0 ≤ r ∧ r ≤ 7
  · have : r = 0 ∨ r = 1 ∨ r = 2 ∨ r = 3 ∨ r = 4 ∨ r = 5 ∨ r = 6 ∨ r = 7 := by omega
    rcases this with rfl | rfl | rfl | rfl | rfl | rfl | rfl | rfl <;> decide +kernel
  · have h1 : f116_0 r = false := by simp [f116_0, cnd_eq]; omega
    simp only [f119_0, h1, cnd]
    simp
    omega
theorem marked_eq {k a b r g s m : Int} (hb : -9223372036854775808 ≤ b ∧ b < 9223372036854775808) (hm : 0 ≤ m) (hm2 : m < 18446744073709551616) (hg : 0 ≤ g) (hg2 : g < 9223372036854775808) (hgk : k = 2 ∨ k = 4 ∨ g = 0)
    (hs : 0 ≤ s) (hsk : k = 3 ∨ k = 4 ∨ k = 5 ∨ s = 0) (hn : f172_1 k b = true) : f121_1 k a b r g s m = f128_5 k a b r g s m := by
  by_cases k1 : k = 1
  · subst k1
    have hb2 : 5 ≤ b ∧ b ≤ 32 := by revert hn; simp [f172_1, cnd_eq]
    have hg0 : g = 0 := by omega
    subst hg0
    have hpos := p26_pos (n := b.toNat) (by omega)
    have hle := p26_le (n := b.toNat) (m := 32) (by omega) (by omega)
    have h32 : p26 32 = 4294967296 := by decide +kernel
    have h5 : p26 (Int.toNat 5) = 32 := by decide +kernel
    have htm : m.tmod 32 = m % 32 := Int.tmod_eq_emod_of_nonneg hm
    simp only [f121_1, f128_5, ones_eq (n := b) (by omega) (by omega), aligned_eq (n := 5) hm hm2 (by omega) (by omega), h5, htm, cnd_eq]
    rw [wrap_u64_id (by omega) (by omega)]
    by_cases hh : m % 32 = 0 <;> simp [hh]
  by_cases k2 : k = 2
  · subst k2
    have hb2 : 1 ≤ b ∧ b ≤ 12 := by revert hn; simp [f172_1, cnd_eq]
    have hw : IntKind.i64.wrap (64 - b) = 64 - b := wrap_i64 (by omega) (by omega)
    simp only [f121_1, f128_5, hw, cnd_eq]
    by_cases hg3 : g ≤ 63
    · rw [below_pow hm hm2 hg hg3]
      grind
    · grind
  by_cases k3 : k = 3
  · subst k3
    have hg0 : g = 0 := by omega
    subst hg0
    have hb2 : b = 12 ∨ b = 21 ∨ b = 30 := by revert hn; simp only [f172_1, f173_0, f173_1, cnd_eq]; grind
    by_cases hs0 : s = 0
    · subst hs0; simp [f121_1, f128_5, f174_0, cnd_eq]
    · have hp : ∀ l, 0 ≤ l → l < 4 → cnd (f195_1 m) (f196_0 m l == m) false = f177_1 m l := fun l h0 h1 => place_eq hm h0 h1
      have e1 : f173_0 12 = 3 := by decide +kernel
      have e2 : f173_0 21 = 2 := by decide +kernel
      have e3 : f173_0 30 = 1 := by decide +kernel
      rcases hb2 with rfl | rfl | rfl
      · simp only [f121_1, f128_5, f174_0, e1, hp 3 (by omega) (by omega)]; simp [cnd_eq, hs0]
      · simp only [f121_1, f128_5, f174_0, e2, hp 2 (by omega) (by omega)]; simp [cnd_eq, hs0]
      · simp only [f121_1, f128_5, f174_0, e3, hp 1 (by omega) (by omega)]; simp [cnd_eq, hs0]
  by_cases k4 : k = 4
  · subst k4
    by_cases hs0 : s = 0
    · subst hs0
      simp only [f121_1, f128_5, f174_0, cnd_eq]
      grind
    · have hw : IntKind.i64.wrap (g - 1) = g - 1 := wrap_i64 (by omega) (by omega)
      by_cases hg1 : 1 ≤ g ∧ g ≤ 3
      · have hp := place_eq (m := m) (l := g - 1) hm (by omega) (by omega)
        simp only [f121_1, f128_5, f174_0, hw, hp]
        simp only [cnd_eq]
        grind
      · simp only [f121_1, f128_5, f174_0, hw, cnd_eq]
        grind
  have hg0 : g = 0 := by omega
  subst hg0
  by_cases k7 : k = 7
  · subst k7; simp [f121_1, f128_5, cnd_eq]
  by_cases k9 : k = 9
  · subst k9; simp [f121_1, f128_5, cnd_eq]
  by_cases k10 : k = 10
  · subst k10
    have hb2 : 1 ≤ b ∧ b ≤ 12 := by revert hn; simp [f172_1, cnd_eq]
    have e3 : min b.toNat IntKind.u64.bits = b.toNat := by simp only [IntKind.bits]; omega
    have e4 : (2:Int) ^ b.toNat = p26 b.toNat := by rw [p26_eq (by omega)]; simp
    have hpos := p26_pos (n := b.toNat) (by omega)
    have hle := p26_le (n := b.toNat) (m := 32) (by omega) (by omega)
    have h32 : p26 32 = 4294967296 := by decide +kernel
    have e5 : IntKind.u64.wrap (1 * p26 b.toNat) = p26 b.toNat := by rw [Int.one_mul, wrap_u64_id (by omega) (by omega)]
    simp [f121_1, f128_5, cnd_eq, e3, e4]
    rw [wrap_u64_id (by omega) (by omega)]
  · simp [f121_1, f128_5, cnd_eq, k1, k2, k3, k4, k7, k9, k10]
theorem right_eq {k a b r g s m : Int} (ha : 0 ≤ a) (ha2 : a < 18446744073709551616) (hb : -9223372036854775808 ≤ b ∧ b < 9223372036854775808) (hm : 0 ≤ m) (hm2 : m < 18446744073709551616) (hg2 : g < 9223372036854775808) :
    f45_1 k a b r g s m = f50_2 k a b r g s m := by
  by_cases hl : f127_1 k a b r g s m = true
  · have hn : f172_1 k b = true := by
      rcases size_eq k b with ⟨h, _⟩ | ⟨_, h⟩
      · exact h
      · exfalso; revert hl; simp [f127_1, h, cnd_eq]
    by_cases hc : 0 ≤ g ∧ (k = 2 ∨ k = 4 ∨ g = 0) ∧ 0 ≤ s ∧ (k = 3 ∨ k = 4 ∨ k = 5 ∨ s = 0)
    · obtain ⟨c1, c2, c3, c4⟩ := hc
      simp only [f45_1, f50_2, lies_eq ha ha2, hl, marked_eq hb hm hm2 c1 hg2 c2 c3 c4 hn, rights_eq, f118_0, f116_0, cnd_eq]
      generalize f128_5 k a b r g s m = z
      grind (splits := 40)
    · by_cases hgz : 0 ≤ g ∧ (k = 2 ∨ k = 4 ∨ g = 0)
      · have : ¬ (0 ≤ s ∧ (k = 3 ∨ k = 4 ∨ k = 5 ∨ s = 0)) := fun h => hc ⟨hgz.1, hgz.2, h.1, h.2⟩
        simp only [f45_1, f50_2, lies_eq ha ha2, hl, cnd_eq]
        generalize f128_5 k a b r g s m = z
        generalize f121_1 k a b r g s m = z'
        grind (splits := 40)
      · have hz : f128_5 k a b r g s m = false := by
          simp only [f128_5, cnd_eq]
          grind (splits := 40)
        simp only [f45_1, f50_2, lies_eq ha ha2, hl, hz, cnd_eq]
        generalize f121_1 k a b r g s m = z'
        grind (splits := 40)
  · simp only [Bool.not_eq_true] at hl
    simp only [f45_1, f50_2, lies_eq ha ha2, hl, cnd_eq]
    simp
end Go.Sx.M

namespace Go.Sx.M
open Go Go.Sx

theorem cf {α : Type} (a b : α) : cnd false a b = b := rfl
theorem right_size' {k a b r g s m : Int} (h : f45_1 k a b r g s m = true) : f172_1 k b = true ∧ f172_0 k b = f176_0 k b ∧ (f176_0 k b = -1 ∨ (5 ≤ f176_0 k b ∧ f176_0 k b ≤ 32)) := by
  rcases size_eq k b with h1 | ⟨h1, _⟩
  · exact h1
  · rw [right_size h1] at h; cases h
end Go.Sx.M

namespace Go.Sx.M
open Go Go.Sx

theorem field_get {l d : Int} {w : Nat} (hw : w < 18446744073709551616) (hf : f165_0 l d = true) (h0 : 0 ≤ l) (h1 : l ≤ 63) (h2 : 1 ≤ d) (h3 : d ≤ 63) : f102_1 l d w = ((w / 2 ^ l.toNat % 2 ^ d.toNat:Nat):Int) := by
  have hp := p26_eq (n := d.toNat) (by omega)
  have hpos : 0 < 2 ^ d.toNat := Nat.pow_pos (by omega)
  have hle : 2 ^ d.toNat ≤ 2 ^ 63 := Nat.pow_le_pow_right (by omega) (by omega)
  have h63 : (2:Nat) ^ 63 = 9223372036854775808 := by decide
  have e : p26 d.toNat - 1 = ((2 ^ d.toNat - 1:Nat):Int) := by rw [hp]; omega
  have e3 : min l.toNat IntKind.u64.bits = l.toNat := by simp only [IntKind.bits]; omega
  have e4 : ((w:Int)).fdiv (2 ^ l.toNat) = ((w / 2 ^ l.toNat:Nat):Int) := by
    rw [Int.fdiv_eq_ediv_of_nonneg _ (by exact Int.le_of_lt (Int.pow_pos (by omega)))]
    simp
  have hq : w / 2 ^ l.toNat ≤ w := Nat.div_le_self _ _
  have hn : (!f165_0 l d) = false := by rw [hf]; rfl
  simp only [f102_1, hn, cf, e3, e4, ones_eq (n := d) (by omega) h3, e]
  rw [u64_and_nat _ _ (by omega) (by omega), Nat.and_two_pow_sub_one_eq_mod]
theorem field_put {l d : Int} {w v : Nat} (hf : f165_0 l d = true) (h0 : 0 ≤ l) (h1 : l ≤ 63) (h2 : 1 ≤ d) (h3 : d ≤ 63) (h4 : l + d ≤ 64) (hw : w < 2 ^ l.toNat) (hv : v < 2 ^ d.toNat) :
    f192_1 l d w v = ((w + v * 2 ^ l.toNat:Nat):Int) := by
  have hp := p26_eq (n := d.toNat) (by omega)
  have hpos : 0 < 2 ^ d.toNat := Nat.pow_pos (by omega)
  have hposl : 0 < 2 ^ l.toNat := Nat.pow_pos (by omega)
  have h64 : (2:Nat) ^ 64 = 18446744073709551616 := by decide
  have hd : 2 ^ d.toNat ≤ 2 ^ 63 := Nat.pow_le_pow_right (by omega) (by omega)
  have hl : 2 ^ l.toNat ≤ 2 ^ 63 := Nat.pow_le_pow_right (by omega) (by omega)
  have h63 : (2:Nat) ^ 63 = 9223372036854775808 := by decide
  have hprod : 2 ^ d.toNat * 2 ^ l.toNat ≤ 2 ^ 64 := by rw [← Nat.pow_add]; exact Nat.pow_le_pow_right (by omega) (by omega)
  have e : p26 d.toNat - 1 = ((2 ^ d.toNat - 1:Nat):Int) := by rw [hp]; omega
  have e3 : min l.toNat IntKind.u64.bits = l.toNat := by simp only [IntKind.bits]; omega
  have hn : (!f165_0 l d) = false := by rw [hf]; rfl
  have hbel := below_pow (m := v) (g := d) (by omega) (by omega) (by omega) h3
  have hlt : decide ((v:Int) < p26 d.toNat) = true := by rw [hp]; simp only [decide_eq_true_eq]; exact Int.ofNat_lt.2 hv
  rw [hlt] at hbel
  have hne : (Go.bits Go.BinOp.andNot IntKind.u64 (v:Int) (f123_1 d) != 0) = false := by rw [bne, hbel]; rfl
  have hm1 : (2 ^ d.toNat - 1) * 2 ^ l.toNat < 18446744073709551616 := by
    have : (2 ^ d.toNat - 1) * 2 ^ l.toNat < 2 ^ d.toNat * 2 ^ l.toNat := Nat.mul_lt_mul_of_pos_right (by omega) hposl
    omega
  have hv1 : v * 2 ^ l.toNat < 18446744073709551616 := by
    have : v * 2 ^ l.toNat < 2 ^ d.toNat * 2 ^ l.toNat := Nat.mul_lt_mul_of_pos_right hv hposl
    omega
  have emask : f209_1 l d = (((2 ^ d.toNat - 1) * 2 ^ l.toNat:Nat):Int) := by
    simp only [f209_1, hn, cf, e3, ones_eq (n := d) (by omega) h3, e]
    have : (((2 ^ d.toNat - 1:Nat):Int)) * 2 ^ l.toNat = (((2 ^ d.toNat - 1) * 2 ^ l.toNat:Nat):Int) := by simp
    rw [this, wrap_u64_id (Int.natCast_nonneg _) (by omega)]
  have eshl : IntKind.u64.wrap ((v:Int) * 2 ^ l.toNat) = ((v * 2 ^ l.toNat:Nat):Int) := by
    have : (v:Int) * 2 ^ l.toNat = ((v * 2 ^ l.toNat:Nat):Int) := by simp
    rw [this, wrap_u64_id (Int.natCast_nonneg _) (by omega)]
  simp only [f192_1, hn, hne, cf, emask, e3, eshl]
  have hkeep : w &&& (18446744073709551615 - (2 ^ d.toNat - 1) * 2 ^ l.toNat) = w := by
    apply Nat.eq_of_testBit_eq
    intro j
    have e1 : 18446744073709551615 - (2 ^ d.toNat - 1) * 2 ^ l.toNat = 2 ^ 64 - ((2 ^ d.toNat - 1) * 2 ^ l.toNat + 1) := by omega
    rw [e1, Nat.testBit_and, Nat.testBit_two_pow_sub_succ (by omega), ← Nat.shiftLeft_eq, Nat.testBit_shiftLeft]
    by_cases hj : j < l.toNat
    · have h1 : j < 64 := by omega
      have h2 : ¬ j ≥ l.toNat := by omega
      simp [h1, h2]
    · have : w.testBit j = false := Nat.testBit_lt_two_pow (Nat.lt_of_lt_of_le hw (Nat.pow_le_pow_right (by omega) (by omega)))
      simp [this]
  rw [u64_andNot_nat w _ (by omega) (by omega), hkeep, u64_or_nat w _ (by omega) (by omega)]
  congr 1
  rw [Nat.or_comm, Nat.mul_comm, ← Nat.two_pow_add_eq_or_of_lt hw, Nat.add_comm]
end Go.Sx.M

namespace Go.Sx.M
open Go Go.Sx

theorem right_ranges {k a b r g s m : Int} (ha : 0 ≤ a) (ha2 : a < 18446744073709551616) (h : f50_2 k a b r g s m = true) (h1 : f45_1 k a b r g s m = true) :
    (0 ≤ k ∧ k ≤ 10) ∧ (0 ≤ b ∧ b ≤ 32) ∧ (0 ≤ r ∧ r ≤ 7) ∧ (0 ≤ g ∧ g ≤ 63) ∧ (0 ≤ s ∧ s ≤ 4095) ∧ a < 4294967296 ∧ a % 32 = 0 := by
  obtain ⟨q1, q2, q3⟩ := right_size' h1
  have hk : 0 ≤ k ∧ k ≤ 10 := by revert q1; simp only [f172_1, f173_0, f173_1, cnd_eq]; grind (splits := 40)
  have hb : 0 ≤ b ∧ b ≤ 32 := by revert q1; simp only [f172_1, f173_0, f173_1, cnd_eq]; grind (splits := 40)
  have hl : f127_1 k a b r g s m = true := by
    cases hh : f127_1 k a b r g s m with
    | true => rfl
    | false => rw [← h]; simp [f50_2, hh, cnd_eq]
  have hr : 0 ≤ r ∧ r ≤ 7 := by revert h; simp only [f50_2, f118_0, hl, cnd_eq]; grind (splits := 40)
  have hs : 0 ≤ s ∧ s ≤ 4095 := by revert h; simp only [f50_2, f118_0, hl, cnd_eq]; grind (splits := 40)
  have hg0 : 0 ≤ g := by revert h1; simp only [f45_1, cnd_eq]; grind (splits := 40)
  have hm : f128_5 k a b r g s m = true := by revert h; simp only [f50_2, hl, cnd_eq]; grind (splits := 40)
  have hg : g ≤ 63 := by revert hm; simp only [f128_5, cnd_eq]; grind (splits := 40)
  have hal : a < 4294967296 ∧ a % 32 = 0 := by
    rcases q3 with q3 | ⟨q3, q4⟩
    · have : a = 0 := by revert hl; simp [f127_1, q3, cnd_eq]
      omega
    · have hd : decide (f176_0 k b < 0) = false := by simp; omega
      have htm : a.tmod (p26 (f176_0 k b).toNat) = a % p26 (f176_0 k b).toNat := Int.tmod_eq_emod_of_nonneg ha
      have hlt : a < 4294967296 := by revert hl; simp only [f127_1, hd, cnd_eq]; grind
      have hmod : a % p26 (f176_0 k b).toNat = 0 := by revert hl; simp only [f127_1, hd, htm, cnd_eq]; grind
      have hdvd : (32:Int) ∣ p26 (f176_0 k b).toNat := by
        rw [p26_eq (by omega)]
        have : (32:Int) = ((2 ^ 5:Nat):Int) := by decide
        rw [this, Int.natCast_dvd_natCast]
        exact Nat.pow_dvd_pow 2 (by omega)
      have := Int.dvd_trans hdvd (Int.dvd_of_emod_eq_zero hmod)
      exact ⟨hlt, by omega⟩
  exact ⟨hk, hb, hr, ⟨hg0, hg⟩, hs, hal⟩
def wordN (k b r g s q:Nat) : Nat := k + b * 16 + r * 1024 + g * 8192 + s * 524288 + q * 34359738368
theorem word_put {k b r g s q : Nat} (hk : k < 16) (hb : b < 64) (hr : r < 8) (hg : g < 64) (hs : s < 65536) (hq : q < 134217728) :
    f192_1 35 27 (f192_1 19 16 (f192_1 13 6 (f192_1 10 3 (f192_1 4 6 (f192_1 0 4 0 k) b) r) g) s) q = wordN k b r g s q := by
  have p4 : (2:Nat) ^ (Int.toNat 4) = 16 := by decide
  have p6 : (2:Nat) ^ (Int.toNat 6) = 64 := by decide
  have p10 : (2:Nat) ^ (Int.toNat 10) = 1024 := by decide
  have p3 : (2:Nat) ^ (Int.toNat 3) = 8 := by decide
  have p13 : (2:Nat) ^ (Int.toNat 13) = 8192 := by decide
  have p19 : (2:Nat) ^ (Int.toNat 19) = 524288 := by decide
  have p16 : (2:Nat) ^ (Int.toNat 16) = 65536 := by decide
  have p35 : (2:Nat) ^ (Int.toNat 35) = 34359738368 := by decide
  have p27 : (2:Nat) ^ (Int.toNat 27) = 134217728 := by decide
  have p0 : (2:Nat) ^ (Int.toNat 0) = 1 := by decide
  have e0 : f192_1 0 4 0 k = ((0 + k * 2 ^ (Int.toNat 0):Nat):Int) := field_put (w := 0) (by decide +kernel) (by omega) (by omega) (by omega) (by omega) (by omega) (by rw [p0]; omega) (by rw [p4]; omega)
  rw [e0, field_put (l := 4) (d := 6) (by decide +kernel) (by omega) (by omega) (by omega) (by omega) (by omega) (by rw [p0, p4]; omega) (by rw [p6]; omega)]
  rw [field_put (l := 10) (d := 3) (by decide +kernel) (by omega) (by omega) (by omega) (by omega) (by omega) (by rw [p0, p4, p10]; omega) (by rw [p3]; omega)]
  rw [field_put (l := 13) (d := 6) (by decide +kernel) (by omega) (by omega) (by omega) (by omega) (by omega) (by rw [p0, p4, p10, p13]; omega) (by rw [p6]; omega)]
  rw [field_put (l := 19) (d := 16) (by decide +kernel) (by omega) (by omega) (by omega) (by omega) (by omega) (by rw [p0, p4, p10, p13, p19]; omega) (by rw [p16]; omega)]
  rw [field_put (l := 35) (d := 27) (by decide +kernel) (by omega) (by omega) (by omega) (by omega) (by omega) (by rw [p0, p4, p10, p13, p19, p35]; omega) (by rw [p27]; omega)]
  rw [p0, p4, p10, p13, p19, p35]
  unfold wordN
  congr 1
  omega
theorem word_get {k b r g s q : Nat} (hk : k < 16) (hb : b < 64) (hr : r < 8) (hg : g < 64) (hs : s < 65536) (hq : q < 134217728) :
    f102_1 0 4 (wordN k b r g s q) = k ∧ f102_1 4 6 (wordN k b r g s q) = b ∧ f102_1 10 3 (wordN k b r g s q) = r ∧ f102_1 13 6 (wordN k b r g s q) = g ∧ f102_1 19 16 (wordN k b r g s q) = s ∧ f102_1 35 27 (wordN k b r g s q) = q := by
  have p4 : (2:Nat) ^ (Int.toNat 4) = 16 := by decide
  have p6 : (2:Nat) ^ (Int.toNat 6) = 64 := by decide
  have p10 : (2:Nat) ^ (Int.toNat 10) = 1024 := by decide
  have p3 : (2:Nat) ^ (Int.toNat 3) = 8 := by decide
  have p13 : (2:Nat) ^ (Int.toNat 13) = 8192 := by decide
  have p19 : (2:Nat) ^ (Int.toNat 19) = 524288 := by decide
  have p16 : (2:Nat) ^ (Int.toNat 16) = 65536 := by decide
  have p35 : (2:Nat) ^ (Int.toNat 35) = 34359738368 := by decide
  have p27 : (2:Nat) ^ (Int.toNat 27) = 134217728 := by decide
  have p0 : (2:Nat) ^ (Int.toNat 0) = 1 := by decide
  have hw : wordN k b r g s q < 18446744073709551616 := by unfold wordN; omega
  refine ⟨?_, ?_, ?_, ?_, ?_, ?_⟩
  · rw [field_get hw (by decide +kernel) (by omega) (by omega) (by omega) (by omega), p0, p4]; unfold wordN; omega
  · rw [field_get hw (by decide +kernel) (by omega) (by omega) (by omega) (by omega), p4, p6]; unfold wordN; omega
  · rw [field_get hw (by decide +kernel) (by omega) (by omega) (by omega) (by omega), p10, p3]; unfold wordN; omega
  · rw [field_get hw (by decide +kernel) (by omega) (by omega) (by omega) (by omega), p13, p6]; unfold wordN; omega
  · rw [field_get hw (by decide +kernel) (by omega) (by omega) (by omega) (by omega), p19, p16]; unfold wordN; omega
  · rw [field_get hw (by decide +kernel) (by omega) (by omega) (by omega) (by omega), p35, p27]; unfold wordN; omega
theorem word_right {k a b r g s m : Int} (ha : 0 ≤ a) (ha2 : a < 18446744073709551616) (h : f50_2 k a b r g s m = true) (h1 : f45_1 k a b r g s m = true) :
    f164_14 k a b r g s m = wordN k.toNat b.toNat r.toNat g.toNat s.toNat (a / 32).toNat ∧ f160_2 k a b r g s m = wordN k.toNat b.toNat r.toNat g.toNat s.toNat (a / 32).toNat := by
  obtain ⟨hk, hb, hr, hg, hs, hal, hmod⟩ := right_ranges ha ha2 h h1
  have hn : (!f45_1 k a b r g s m) = false := by rw [h1]; rfl
  have hq : a.fdiv 32 = a / 32 := Int.fdiv_eq_ediv_of_nonneg a (by omega)
  have ht : a.tdiv 32 = a / 32 := Int.tdiv_eq_ediv_of_nonneg ha
  obtain ⟨q, hq2⟩ : ∃ q : Nat, a / 32 = q := ⟨(a / 32).toNat, by omega⟩
  have hql : q < 134217728 := by omega
  simp only [f164_14, f160_2, hn, cf, hq, ht, hq2]
  clear h h1 hn hq ht hq2 hal hmod ha ha2
  obtain ⟨k, rfl⟩ : ∃ n : Nat, k = n := ⟨k.toNat, by omega⟩
  obtain ⟨b, rfl⟩ : ∃ n : Nat, b = n := ⟨b.toNat, by omega⟩
  obtain ⟨r, rfl⟩ : ∃ n : Nat, r = n := ⟨r.toNat, by omega⟩
  obtain ⟨g, rfl⟩ : ∃ n : Nat, g = n := ⟨g.toNat, by omega⟩
  obtain ⟨s, rfl⟩ : ∃ n : Nat, s = n := ⟨s.toNat, by omega⟩
  simp only [Int.toNat_natCast]
  rw [wrap_u64_id (x := (k:Int)) (by omega) (by omega), wrap_u64_id (x := (b:Int)) (by omega) (by omega), wrap_u64_id (x := (r:Int)) (by omega) (by omega), wrap_u64_id (x := (g:Int)) (by omega) (by omega),
    wrap_u64_id (x := (s:Int)) (by omega) (by omega), wrap_u64_id (x := (q:Int)) (by omega) (by omega)]
  constructor
  · exact word_put (by omega) (by omega) (by omega) (by omega) (by omega) (by omega)
  · rw [wrap_u64_id (x := (b:Int) * 16) (by omega) (by omega), wrap_u64_id (x := (k:Int) + b * 16) (by omega) (by omega)]
    rw [wrap_u64_id (x := (r:Int) * 1024) (by omega) (by omega), wrap_u64_id (x := (k:Int) + b * 16 + r * 1024) (by omega) (by omega)]
    rw [wrap_u64_id (x := (g:Int) * 8192) (by omega) (by omega), wrap_u64_id (x := (k:Int) + b * 16 + r * 1024 + g * 8192) (by omega) (by omega)]
    rw [wrap_u64_id (x := (s:Int) * 524288) (by omega) (by omega), wrap_u64_id (x := (k:Int) + b * 16 + r * 1024 + g * 8192 + s * 524288) (by omega) (by omega)]
    rw [wrap_u64_id (x := (q:Int) * 34359738368) (by omega) (by omega), wrap_u64_id (x := (k:Int) + b * 16 + r * 1024 + g * 8192 + s * 524288 + q * 34359738368) (by omega) (by omega)]
    unfold wordN
    omega
end Go.Sx.M

namespace Go.Sx.M
open Go Go.Sx

theorem words_at {k a b r g s m : Int} (h1 : f45_1 k a b r g s m = true) : f164_15 k a b r g s m = m ∧ f164_16 k a b r g s m = 0 := by
  simp [f164_15, f164_16, h1, cnd_eq]
theorem words_no {k a b r g s m : Int} (h1 : f45_1 k a b r g s m = false) : f164_14 k a b r g s m = 0 ∧ f164_15 k a b r g s m = 0 ∧ f164_16 k a b r g s m = 10 := by
  simp [f164_14, f164_15, f164_16, h1, cnd_eq]
end Go.Sx.M

namespace Go.Sx.M
open Go Go.Sx
structure Sl where
  k : Int
  a : Int
  b : Int
  r : Int
  g : Int
  s : Int
  m : Int
  x : Int
  p : Int
  d : Int
  deriving DecidableEq
def sl0 : Sl := ⟨0, 0, 0, 0, 0, 0, 0, 0, 0, 0⟩
def U64 (a:Int) : Prop := 0 ≤ a ∧ a < 18446744073709551616
def I64 (a:Int) : Prop := -9223372036854775808 ≤ a ∧ a < 9223372036854775808
structure SlR (z : Sl) : Prop where
  k : I64 z.k
  a : U64 z.a
  b : I64 z.b
  r : I64 z.r
  g : I64 z.g
  s : I64 z.s
  m : U64 z.m
  x : U64 z.x
  p : U64 z.p
  d : I64 z.d
def rgt (s : Sl) : Bool := f45_1 s.k s.a s.b s.r s.g s.s s.m
def rightS (s : Sl) : Bool := f34_0 s.k s.a s.b s.r s.g s.s s.m s.x s.p s.d
def wd0 (s : Sl) : Int := f104_2 s.k s.a s.b s.r s.g s.s s.m s.x s.p s.d
def wd1 (s : Sl) : Int := f104_3 s.k s.a s.b s.r s.g s.s s.m s.x s.p s.d
def wd2 (s : Sl) : Int := f104_4 s.k s.a s.b s.r s.g s.s s.m s.x s.p s.d
def wd3 (s : Sl) : Int := f104_5 s.k s.a s.b s.r s.g s.s s.m s.x s.p s.d
theorem link_iff {x : Int} (h : U64 x) : f107_1 x = true ↔ x < 4294967296 ∧ x % 32 = 0 := by
  have e : f125_0 x 5 = decide (x % 32 = 0) := by
    have := aligned_eq (a := x) (n := 5) h.1 h.2 (by omega) (by omega)
    rw [this]
    have : p26 (Int.toNat 5) = 32 := by decide +kernel
    rw [this]
    by_cases hh : x % 32 = 0 <;> simp [hh]
  have : x.fdiv 4294967296 = x / 4294967296 := Int.fdiv_eq_ediv_of_nonneg x (by omega)
  have h1 := h.1
  have h2 := h.2
  simp only [f107_1, e, this, cnd_eq]
  by_cases hx : x < 4294967296
  · have : x / 4294967296 = 0 := by omega
    simp [this, hx]
  · have : ¬ x / 4294967296 = 0 := by omega
    simp [this, hx]
theorem rightS_iff {s : Sl} (h : SlR s) : rightS s = true ↔ rgt s = true ∧ (s.x < 4294967296 ∧ s.x % 32 = 0) ∧ (s.p < 4294967296 ∧ s.p % 32 = 0) ∧ 0 ≤ s.d ∧ s.d ≤ 4096 := by
  have e1 := link_iff h.x
  have e2 := link_iff h.p
  rw [← e1, ← e2]
  simp only [rightS, f34_0, rgt]
  generalize f45_1 s.k s.a s.b s.r s.g s.s s.m = u
  generalize f107_1 s.x = v
  generalize f107_1 s.p = w
  cases u <;> cases v <;> cases w <;> simp [cnd] <;> (by_cases h1 : 0 ≤ s.d <;> by_cases h2 : s.d ≤ 4096 <;> simp [h1, h2])
theorem wd1_eq {s : Sl} (h : rgt s = true) : wd1 s = s.m := (words_at (k := s.k) (a := s.a) (b := s.b) (r := s.r) (g := s.g) (s := s.s) (m := s.m) h).1
theorem wd2_eq {s : Sl} (h : SlR s) (hx : s.x < 4294967296) (hp : s.p < 4294967296) : wd2 s = s.x / 32 + s.p / 32 * 4294967296 := by
  have hx0 := h.x.1
  have hp0 := h.p.1
  have e1 : s.x.fdiv 32 = s.x / 32 := Int.fdiv_eq_ediv_of_nonneg _ (by omega)
  have e2 : s.p.fdiv 32 = s.p / 32 := Int.fdiv_eq_ediv_of_nonneg _ (by omega)
  simp only [wd2, f104_4, e1, e2]
  obtain ⟨x, hx2⟩ : ∃ n : Nat, s.x / 32 = n := ⟨(s.x / 32).toNat, by omega⟩
  obtain ⟨q, hq2⟩ : ∃ n : Nat, s.p / 32 = n := ⟨(s.p / 32).toNat, by omega⟩
  rw [hx2, hq2]
  have hx3 : x < 134217728 := by omega
  have hq3 : q < 134217728 := by omega
  rw [wrap_u64_id (x := (q:Int) * 4294967296) (by omega) (by omega)]
  have e3 : (q:Int) * 4294967296 = ((q * 4294967296:Nat):Int) := by simp
  rw [e3, u64_or_nat x _ (by omega) (by omega)]
  have : x ||| q * 4294967296 = x + q * 4294967296 := by
    have h32 : q * 4294967296 = 2 ^ 32 * q := by omega
    rw [h32, Nat.or_comm, ← Nat.two_pow_add_eq_or_of_lt (by omega), Nat.add_comm]
  rw [this]; simp
theorem links_back {x q : Nat} (hx : x < 134217728) (hq : q < 134217728) : f102_1 0 27 ((x + q * 4294967296:Nat):Int) = x ∧ f102_1 32 27 ((x + q * 4294967296:Nat):Int) = q := by
  have p0 : (2:Nat) ^ (Int.toNat 0) = 1 := by decide
  have p27 : (2:Nat) ^ (Int.toNat 27) = 134217728 := by decide
  have p32 : (2:Nat) ^ (Int.toNat 32) = 4294967296 := by decide
  refine ⟨?_, ?_⟩
  · rw [field_get (by omega) (by decide +kernel) (by omega) (by omega) (by omega) (by omega), p0, p27]; omega
  · rw [field_get (by omega) (by decide +kernel) (by omega) (by omega) (by omega) (by omega), p32, p27]; omega
theorem rgt2 {s : Sl} (h : SlR s) (hr : rgt s = true) : f50_2 s.k s.a s.b s.r s.g s.s s.m = true := by
  have hR := right_eq (k := s.k) (r := s.r) (s := s.s) h.a.1 h.a.2 h.b h.m.1 h.m.2 h.g.2
  exact hR.symm.trans hr
theorem wd_range {s : Sl} (h : SlR s) (hr : rightS s = true) : U64 (wd0 s) ∧ U64 (wd1 s) ∧ U64 (wd2 s) ∧ U64 (wd3 s) := by
  obtain ⟨q1, q2, q3, q4, q5⟩ := (rightS_iff h).1 hr
  have hr2 := rgt2 h q1
  obtain ⟨w1, w2⟩ := word_right h.a.1 h.a.2 hr2 q1
  obtain ⟨hk, hb, hrr, hg, hs, hal, hmod⟩ := right_ranges h.a.1 h.a.2 hr2 q1
  have ha := h.a.1
  refine ⟨?_, by rw [wd1_eq q1]; exact h.m, ?_, ?_⟩
  · have e0 : wd0 s = f164_14 s.k s.a s.b s.r s.g s.s s.m := rfl
    rw [e0, w1]
    unfold wordN U64
    omega
  · have h1 := h.x.1
    have h2 := h.p.1
    rw [wd2_eq h q2.1 q3.1]
    unfold U64
    omega
  · have : wd3 s = IntKind.u64.wrap s.d := rfl
    rw [this, wrap_u64_id (by omega) (by omega)]
    unfold U64
    omega
end Go.Sx.M

namespace Go.Sx.M
open Go Go.Sx Go.Proofs Go.RowKit
set_option maxRecDepth 100000
def pre29 (v : V29) : Prop := U64 v.at_
noncomputable def ldE (M : Mem) (a:Int) : Int := f29_24 ⟨a, M⟩
noncomputable def ld (M : Mem) (a:Int) : Sl := ⟨f29_14 ⟨a, M⟩, f29_15 ⟨a, M⟩, f29_16 ⟨a, M⟩, f29_17 ⟨a, M⟩, f29_18 ⟨a, M⟩, f29_19 ⟨a, M⟩, f29_20 ⟨a, M⟩, f29_21 ⟨a, M⟩, f29_22 ⟨a, M⟩, f29_23 ⟨a, M⟩⟩
theorem wrapR (x:Int) : 0 ≤ IntKind.u64.wrap x ∧ IntKind.u64.wrap x < 18446744073709551616 := by
  rw [wrap_u64]; omega
theorem n29 (v : V29) (h : pre29 v) : (f29 v).ok ∧ (f29 v).get.1 = .tup [.agg [.int .i64 (ld v.M v.at_).k, .int .u64 (ld v.M v.at_).a, .int .i64 (ld v.M v.at_).b, .int .i64 (ld v.M v.at_).r, .int .i64 (ld v.M v.at_).g, .int .i64 (ld v.M v.at_).s, .int .u64 (ld v.M v.at_).m, .int .u64 (ld v.M v.at_).x, .int .u64 (ld v.M v.at_).p, .int .i64 (ld v.M v.at_).d], .int .i64 (ldE v.M v.at_)] ∧ HOws (f29 v).get.2.1 [HO.res v.M] :=
  ⟨⟨fun _ => wrapR _, fun _ => wrapR _, fun _ => wrapR _, fun _ => wrapR _, trivial⟩, rfl, .refl _⟩
noncomputable def f29n (v : V29) : Tr (Fin th.R) := .need (pre29 v) (.leaf (.tup [.agg [.int .i64 (ld v.M v.at_).k, .int .u64 (ld v.M v.at_).a, .int .i64 (ld v.M v.at_).b, .int .i64 (ld v.M v.at_).r, .int .i64 (ld v.M v.at_).g, .int .i64 (ld v.M v.at_).s, .int .u64 (ld v.M v.at_).m, .int .u64 (ld v.M v.at_).x, .int .u64 (ld v.M v.at_).p, .int .i64 (ld v.M v.at_).d], .int .i64 (ldE v.M v.at_)], [.res v.M], []))
theorem s29n : Sound Try.prog th 29 (fnC d29 ofV29 f29n) := fnC_refine s29 fun v h => by
  obtain ⟨hp, _⟩ := h
  obtain ⟨a, b, c⟩ := n29 v hp
  exact ⟨a, b.symm, (qdd29 v).symm, c, by show 1 ≤ 1; decide⟩
noncomputable def nice29n : List (Nat × CF th.R) := (29, lift (fnC d29 ofV29 f29n)) :: niceph
theorem nok29n : NiceOk Try.prog th nice29n := ⟨lift_sound s29n, nokph⟩
set_option maxRecDepth 100000
def slOf (v : V91) : Sl := ⟨v.k, v.a, v.b, v.r, v.g, v.s, v.m, v.x, v.p, v.d⟩
def pre91 (v : V91) : Prop := U64 v.at_ ∧ SlR (slOf v)
noncomputable def stE (M : Mem) (a:Int) (z : Sl) : Int := f91_8 ⟨a, z.k, z.a, z.b, z.r, z.g, z.s, z.m, z.x, z.p, z.d, M⟩
noncomputable def stM (M : Mem) (a:Int) (z : Sl) : Mem := f91_9 ⟨a, z.k, z.a, z.b, z.r, z.g, z.s, z.m, z.x, z.p, z.d, M⟩
theorem n91 (v : V91) (h : pre91 v) : (f91 v).ok ∧ (f91 v).get.1 = .int .i64 (stE v.M v.at_ (slOf v)) ∧ HOws (f91 v).get.2.1 [HO.res (stM v.M v.at_ (slOf v))] := by
  have key : f91_11 v = false → U64 (wd0 (slOf v)) ∧ U64 (wd1 (slOf v)) ∧ U64 (wd2 (slOf v)) ∧ U64 (wd3 (slOf v)) := fun e => by
    refine wd_range h.2 ?_
    have e : (!rightS (slOf v)) = false := e
    simpa using e
  exact ⟨⟨fun _ e => ⟨wrapR _, (key e).1⟩, fun _ e => ⟨wrapR _, (key e).2.1⟩, fun _ e => ⟨wrapR _, (key e).2.2.1⟩, fun _ e => ⟨wrapR _, (key e).2.2.2⟩, trivial⟩, rfl, .refl _⟩
noncomputable def f91n (v : V91) : Tr (Fin th.R) := .need (pre91 v) (.leaf (.int .i64 (stE v.M v.at_ (slOf v)), [.res (stM v.M v.at_ (slOf v))], [0]))
theorem s91n : Sound Try.prog th 91 (fnC d91 ofV91 f91n) := fnC_refine s91 fun v h => by
  obtain ⟨hp, _⟩ := h
  obtain ⟨a, b, c⟩ := n91 v hp
  exact ⟨a, b.symm, (qdd91 v).symm, c, by show 1 ≤ 1; decide⟩
noncomputable def nice91n : List (Nat × CF th.R) := (91, lift (fnC d91 ofV91 f91n)) :: nice29n
theorem nok91n : NiceOk Try.prog th nice91n := ⟨lift_sound s91n, nok29n⟩
set_option maxRecDepth 100000
structure V132 where
  at_ : Int
  f : Int
  c : Int
  M : th.R
def A132 (v : V132) : List SV := [.ptr 0 0, .int .u64 v.at_]
def H132 (v : V132) : List (HO th.R) := [.cells 175 [.ptr 1 0, .int .u64 v.f, .int .i64 v.c], .res v.M]
def toV132 (v : V132) : List (Vl th.R) := [.i v.at_, .i v.f, .i v.c, .r v.M]
def ofV132 : List (Vl th.R) → Option V132
  | [.i at_, .i f, .i c, .r M] => some ⟨at_, f, c, M⟩
  | _ => none
def d132 : Ft := ⟨[.ptr 0 0, .int .u64], [.cells 175 [.ptr 1 0, .int .u64, .int .i64], .res]⟩
noncomputable def f132_0 (v : V132) : (Prop) := pre29 (V29.mk v.at_ v.M)
noncomputable def f132_1 (v : V132) : (Int) := cnd (ldE v.M v.at_ != (0:Int)) (ld v.M v.at_).k (cnd ((ld v.M v.at_).k == (0:Int)) (ld v.M v.at_).k (ld v.M v.at_).k)
noncomputable def f132_2 (v : V132) : (Int) := cnd (ldE v.M v.at_ != (0:Int)) (ld v.M v.at_).a (cnd ((ld v.M v.at_).k == (0:Int)) (ld v.M v.at_).a (ld v.M v.at_).a)
noncomputable def f132_3 (v : V132) : (Int) := cnd (ldE v.M v.at_ != (0:Int)) (ld v.M v.at_).b (cnd ((ld v.M v.at_).k == (0:Int)) (ld v.M v.at_).b (ld v.M v.at_).b)
noncomputable def f132_4 (v : V132) : (Int) := cnd (ldE v.M v.at_ != (0:Int)) (ld v.M v.at_).r (cnd ((ld v.M v.at_).k == (0:Int)) (ld v.M v.at_).r (ld v.M v.at_).r)
noncomputable def f132_5 (v : V132) : (Int) := cnd (ldE v.M v.at_ != (0:Int)) (ld v.M v.at_).g (cnd ((ld v.M v.at_).k == (0:Int)) (ld v.M v.at_).g (ld v.M v.at_).g)
noncomputable def f132_6 (v : V132) : (Int) := cnd (ldE v.M v.at_ != (0:Int)) (ld v.M v.at_).s (cnd ((ld v.M v.at_).k == (0:Int)) (ld v.M v.at_).s (ld v.M v.at_).s)
noncomputable def f132_7 (v : V132) : (Int) := cnd (ldE v.M v.at_ != (0:Int)) (ld v.M v.at_).m (cnd ((ld v.M v.at_).k == (0:Int)) (ld v.M v.at_).m (ld v.M v.at_).m)
noncomputable def f132_8 (v : V132) : (Int) := cnd (ldE v.M v.at_ != (0:Int)) (ld v.M v.at_).x (cnd ((ld v.M v.at_).k == (0:Int)) (ld v.M v.at_).x (ld v.M v.at_).x)
noncomputable def f132_9 (v : V132) : (Int) := cnd (ldE v.M v.at_ != (0:Int)) (ld v.M v.at_).p (cnd ((ld v.M v.at_).k == (0:Int)) (ld v.M v.at_).p (ld v.M v.at_).p)
noncomputable def f132_10 (v : V132) : (Int) := cnd (ldE v.M v.at_ != (0:Int)) (ld v.M v.at_).d (cnd ((ld v.M v.at_).k == (0:Int)) (ld v.M v.at_).d (ld v.M v.at_).d)
noncomputable def f132_11 (v : V132) : (Int) := cnd (ldE v.M v.at_ != (0:Int)) (ldE v.M v.at_) (cnd ((ld v.M v.at_).k == (0:Int)) (14:Int) (0:Int))
noncomputable def ff132 (v : V132) : Tr (Fin th.R) := (Tr.need (f132_0 v) (Tr.leaf (SV.tup [SV.agg [SV.int .i64 (f132_1 v), SV.int .u64 (f132_2 v), SV.int .i64 (f132_3 v), SV.int .i64 (f132_4 v), SV.int .i64 (f132_5 v), SV.int .i64 (f132_6 v), SV.int .u64 (f132_7 v), SV.int .u64 (f132_8 v), SV.int .u64 (f132_9 v), SV.int .i64 (f132_10 v)], SV.int .i64 (f132_11 v)], [(HO.cells (175:Nat) [(SV.ptr (1:Nat) (0:Nat)), SV.int .u64 (v.f), SV.int .i64 (v.c)]), HO.res (v.M)], List.nil)))
noncomputable def f132 (v : V132) : Tr (Fin th.R) := (Tr.need (f132_0 v) (Tr.leaf (SV.tup [SV.agg [SV.int .i64 (f132_1 v), SV.int .u64 (f132_2 v), SV.int .i64 (f132_3 v), SV.int .i64 (f132_4 v), SV.int .i64 (f132_5 v), SV.int .i64 (f132_6 v), SV.int .u64 (f132_7 v), SV.int .u64 (f132_8 v), SV.int .u64 (f132_9 v), SV.int .i64 (f132_10 v)], SV.int .i64 (f132_11 v)], [(HO.cells (175:Nat) [(SV.ptr (1:Nat) (0:Nat)), SV.int .u64 (v.f), SV.int .i64 (v.c)]), HO.res (v.M)], [])))
noncomputable def C132 : CF th.R := fnC d132 ofV132 (f132 )
theorem q132 (v : V132) : (evFn th Try.prog (auto th Try.prog nice91n [] 20) (autoH [] [] [] [] : Hints th) 132) (A132 v) (H132 v) = some (ff132 v) := by kernel_rfl
theorem qg132 (v : V132) : ((ff132 v).map (setD [])).get = (f132 v).get := by kernel_rfl
theorem qd132 (v : V132) : allD 2 [] (ff132 v) = true := by kernel_rfl
theorem s132 : Sound Try.prog th 132 (C132 ) := fnC_sound (evFn_sound' (T := th) (P := Try.prog) (tbl := (auto th Try.prog nice91n [] 20)) (auto_sound (nice := nice91n) (us := []) nok91n 20) (H := (autoH [] [] [] [] : Hints th)) (k := 132) (fnLoops (LoopsOk_mem (fun _ => rfl) _ fun _ _ _ e => by cases e))) d132 A132 H132 toV132 (by kernel_rfl) (fun v => by kernel_rfl)
  (fun l v h => by
    unfold ofV132 at h
    split at h
    · cases h; rfl
    · cases h)
  [] (fun v => ⟨ff132 v, q132 v, id, qg132 v, qd132 v⟩)
theorem qdd132 (v : V132) : (f132 v).get.2.2 = [] := by
  rw [← qg132, Tr.map_get]; rfl
end Go.Sx.M

namespace Go.Sx.M
open Go Go.Sx
def MemR (M : Mem) : Prop := ∀ a, U64 (M.W a)
theorem cnd_ind {α : Type} {P : α → Prop} {c : Bool} {a b : α} (ha : P a) (hb : P b) : P (cnd c a b) := by cases c <;> assumption
theorem wrapI (x:Int) : I64 (IntKind.i64.wrap x) := by
  unfold I64
  simp only [IntKind.wrap, IntKind.bits, IntKind.signed, Bool.true_and]
  simp only [show ((2:Int) ^ 64) = 18446744073709551616 from rfl, show ((2:Int) ^ (64 - 1)) = 9223372036854775808 from rfl, decide_eq_true_eq, ge_iff_le]
  split <;> omega
theorem i0 : I64 0 := by unfold I64; omega
theorem u0 : U64 0 := by unfold U64; omega
theorem rd_ranges (a:Int) {b : Int} (hb : U64 b) : I64 (f100_3 a b) ∧ U64 (f100_4 a b) ∧ I64 (f100_5 a b) ∧ I64 (f100_6 a b) ∧ I64 (f100_7 a b) ∧ I64 (f100_8 a b) ∧ U64 (f100_9 a b) := by
  refine ⟨?_, ?_, ?_, ?_, ?_, ?_, ?_⟩
  · exact cnd_ind i0 (wrapI _)
  · exact cnd_ind u0 (wrapR _)
  · exact cnd_ind i0 (wrapI _)
  · exact cnd_ind i0 (wrapI _)
  · exact cnd_ind i0 (wrapI _)
  · exact cnd_ind i0 (wrapI _)
  · exact cnd_ind u0 hb
theorem ld_SlR {M : Mem} (h : MemR M) (a:Int) : SlR (ld M a) := by
  have hb : U64 (f29_37 ⟨a, M⟩) := h _
  obtain ⟨q1, q2, q3, q4, q5, q6, q7⟩ := rd_ranges (f29_36 ⟨a, M⟩) hb
  refine ⟨?_, ?_, ?_, ?_, ?_, ?_, ?_, ?_, ?_, ?_⟩
  · exact cnd_ind i0 (cnd_ind i0 (cnd_ind q1 q1))
  · exact cnd_ind u0 (cnd_ind u0 (cnd_ind q2 q2))
  · exact cnd_ind i0 (cnd_ind i0 (cnd_ind q3 q3))
  · exact cnd_ind i0 (cnd_ind i0 (cnd_ind q4 q4))
  · exact cnd_ind i0 (cnd_ind i0 (cnd_ind q5 q5))
  · exact cnd_ind i0 (cnd_ind i0 (cnd_ind q6 q6))
  · exact cnd_ind u0 (cnd_ind u0 (cnd_ind q7 q7))
  · exact cnd_ind u0 (cnd_ind u0 (cnd_ind (wrapR _) (wrapR _)))
  · exact cnd_ind u0 (cnd_ind u0 (cnd_ind (wrapR _) (wrapR _)))
  · exact cnd_ind i0 (cnd_ind i0 (cnd_ind (wrapI _) i0))
theorem wr_MemR {M : Mem} (h : MemR M) {a x : Int} (hx : U64 x) : MemR (wrM M a x) := by
  intro i
  show U64 (cnd _ (upd M.W a x) M.W i)
  have : cnd (decide (errI M.size a = 0)) (upd M.W a x) M.W i = cnd (decide (errI M.size a = 0)) (upd M.W a x i) (M.W i) := by
    cases decide (errI M.size a = 0) <;> rfl
  rw [this]
  exact cnd_ind (cnd_ind hx (h i)) (h i)
theorem mrg_ind {P : Mem → Prop} {c : Bool} {M N : Mem} (hM : c = true → P M) (hN : c = false → P N) : P (mrgM c M N) := by
  cases c with
  | true => exact hM rfl
  | false => exact hN rfl
theorem st_MemR {M : Mem} (h : MemR M) {z : Sl} (hz : SlR z) (a:Int) : MemR (stM M a z) := by
  refine mrg_ind (fun _ => h) fun _ => mrg_ind (fun _ => h) fun e => ?_
  have e : (!rightS z) = false := e
  obtain ⟨w0, w1, w2, w3⟩ := wd_range hz (by simpa using e)
  exact wr_MemR (wr_MemR (wr_MemR (wr_MemR h w0) w1) w2) w3
theorem st_size (M : Mem) (a:Int) (z : Sl) : (stM M a z).size = M.size :=
  mrg_ind (P := fun N => N.size = M.size) (fun _ => rfl) fun _ => mrg_ind (P := fun N => N.size = M.size) (fun _ => rfl) fun _ => rfl
noncomputable def tX (M : Mem) (a y:Int) : Mem := mrgM (a == 0) M (stM M a { ld M a with x := y })
noncomputable def tP (M : Mem) (a y:Int) : Mem := mrgM (a == 0) M (stM M a { ld M a with p := y })
noncomputable def tC (M : Mem) (a:Int) (c : Sl) : Mem := mrgM (a == 0) M (stM M a { c with x := (ld M a).x, p := (ld M a).p, d := (ld M a).d })
noncomputable def tD (M : Mem) (a:Int) : Mem := mrgM (a == 0) M (stM M a { ld M a with d := IntKind.i64.wrap ((ld M a).d - 1) })
theorem SlR.setX {z : Sl} (h : SlR z) {y : Int} (hy : U64 y) : SlR { z with x := y } := ⟨h.k, h.a, h.b, h.r, h.g, h.s, h.m, hy, h.p, h.d⟩
theorem SlR.setP {z : Sl} (h : SlR z) {y : Int} (hy : U64 y) : SlR { z with p := y } := ⟨h.k, h.a, h.b, h.r, h.g, h.s, h.m, h.x, hy, h.d⟩
theorem SlR.setD {z : Sl} (h : SlR z) {y : Int} (hy : I64 y) : SlR { z with d := y } := ⟨h.k, h.a, h.b, h.r, h.g, h.s, h.m, h.x, h.p, hy⟩
theorem SlR.setC {z c : Sl} (h : SlR z) (hc : SlR c) : SlR { c with x := z.x, p := z.p, d := z.d } := ⟨hc.k, hc.a, hc.b, hc.r, hc.g, hc.s, hc.m, h.x, h.p, h.d⟩
theorem tX_MemR {M : Mem} (h : MemR M) {y : Int} (hy : U64 y) (a:Int) : MemR (tX M a y) := mrg_ind (fun _ => h) fun _ => (st_MemR h ((ld_SlR h a).setX hy) a)
theorem tP_MemR {M : Mem} (h : MemR M) {y : Int} (hy : U64 y) (a:Int) : MemR (tP M a y) := mrg_ind (fun _ => h) fun _ => (st_MemR h ((ld_SlR h a).setP hy) a)
theorem tC_MemR {M : Mem} (h : MemR M) {c : Sl} (hc : SlR c) (a:Int) : MemR (tC M a c) := mrg_ind (fun _ => h) fun _ => (st_MemR h ((ld_SlR h a).setC hc) a)
theorem tD_MemR {M : Mem} (h : MemR M) (a:Int) : MemR (tD M a) := mrg_ind (fun _ => h) fun _ => (st_MemR h ((ld_SlR h a).setD (wrapI _)) a)
noncomputable def tieM (M : Mem) (a b:Int) : Mem := tP (tX M a b) b a
def tieF (f a b:Int) : Int := cnd (a == 0) b f
theorem tie_MemR {M : Mem} (h : MemR M) {a b : Int} (ha : U64 a) (hb : U64 b) : MemR (tieM M a b) := tP_MemR (tX_MemR h hb a) ha b
noncomputable def insM (M : Mem) (a b i:Int) (c : Sl) (d:Int) : Mem := tieM (tieM (stM M i { c with x := 0, p := 0, d := d }) a i) i b
def insF (f a b i:Int) : Int := tieF (tieF f a i) i b
theorem SlR.fresh {c : Sl} (h : SlR c) {d : Int} (hd : I64 d) : SlR { c with x := 0, p := 0, d := d } := ⟨h.k, h.a, h.b, h.r, h.g, h.s, h.m, u0, u0, hd⟩
theorem ins_MemR {M : Mem} (h : MemR M) {a b i : Int} (ha : U64 a) (hb : U64 b) (hi : U64 i) {c : Sl} (hc : SlR c) {d : Int} (hd : I64 d) : MemR (insM M a b i c d) :=
  tie_MemR (tie_MemR (st_MemR h (hc.fresh hd) i) ha hi) hi hb
theorem tX_size (M : Mem) (a y:Int) : (tX M a y).size = M.size := mrg_ind (P := fun N => N.size = M.size) (fun _ => rfl) fun _ => st_size _ _ _
theorem tP_size (M : Mem) (a y:Int) : (tP M a y).size = M.size := mrg_ind (P := fun N => N.size = M.size) (fun _ => rfl) fun _ => st_size _ _ _
theorem tC_size (M : Mem) (a:Int) (c : Sl) : (tC M a c).size = M.size := mrg_ind (P := fun N => N.size = M.size) (fun _ => rfl) fun _ => st_size _ _ _
theorem tD_size (M : Mem) (a:Int) : (tD M a).size = M.size := mrg_ind (P := fun N => N.size = M.size) (fun _ => rfl) fun _ => st_size _ _ _
theorem tie_size (M : Mem) (a b:Int) : (tieM M a b).size = M.size := (tP_size _ _ _).trans (tX_size _ _ _)
theorem ins_size (M : Mem) (a b i:Int) (c : Sl) (d:Int) : (insM M a b i c d).size = M.size := (tie_size _ _ _).trans ((tie_size _ _ _).trans (st_size _ _ _))
noncomputable def hdE (M : Mem) (a:Int) : Int := cnd (ldE M a != 0) (ldE M a) (cnd ((ld M a).k == 0) 14 0)
noncomputable def frE (M : Mem) (a:Int) : Int := cnd (ldE M a != 0) (ldE M a) (cnd (a == 0) 12 (cnd ((ld M a).k != 0) 16 0))
theorem cnd_same {α : Type} (c : Bool) (a : α) : cnd c a a = a := by cases c <;> rfl
noncomputable def dpE (M : Mem) (a:Int) : Int := cnd (hdE M a != 0) (-1) (ld M a).d
def mayC (c : Sl) : Int := f178_0 c.k c.a c.b c.r c.g c.s c.m
noncomputable def ftE (M : Mem) (n a:Int) (c : Sl) : Int := cnd (frE M a != 0) (frE M a) (cnd (mayC c != 0) (mayC c) (cnd (decide (n ≥ 65536)) 15 0))
end Go.Sx.M

namespace Go.Sx.M
open Go Go.Sx Go.Proofs Go.RowKit
set_option maxRecDepth 100000
def pre132 (v : V132) : Prop := U64 v.at_
theorem n132 (v : V132) (h : pre132 v) : (f132 v).ok ∧ (f132 v).get.1 = .tup [.agg [.int .i64 (ld v.M v.at_).k, .int .u64 (ld v.M v.at_).a, .int .i64 (ld v.M v.at_).b, .int .i64 (ld v.M v.at_).r, .int .i64 (ld v.M v.at_).g, .int .i64 (ld v.M v.at_).s, .int .u64 (ld v.M v.at_).m, .int .u64 (ld v.M v.at_).x, .int .u64 (ld v.M v.at_).p, .int .i64 (ld v.M v.at_).d], .int .i64 (hdE v.M v.at_)] ∧ HOws (f132 v).get.2.1 [HO.cells 175 [.ptr 1 0, .int .u64 (v.f), .int .i64 (v.c)], HO.res v.M] := by
  refine ⟨⟨h, trivial⟩, ?_, .refl _⟩
  simp only [f132, Tr.get, f132_1, f132_2, f132_3, f132_4, f132_5, f132_6, f132_7, f132_8, f132_9, f132_10, f132_11, cnd_same]
  rfl
noncomputable def f132n (v : V132) : Tr (Fin th.R) := .need (pre132 v) (.leaf (.tup [.agg [.int .i64 (ld v.M v.at_).k, .int .u64 (ld v.M v.at_).a, .int .i64 (ld v.M v.at_).b, .int .i64 (ld v.M v.at_).r, .int .i64 (ld v.M v.at_).g, .int .i64 (ld v.M v.at_).s, .int .u64 (ld v.M v.at_).m, .int .u64 (ld v.M v.at_).x, .int .u64 (ld v.M v.at_).p, .int .i64 (ld v.M v.at_).d], .int .i64 (hdE v.M v.at_)], [.cells 175 [.ptr 1 0, .int .u64 (v.f), .int .i64 (v.c)], .res v.M], []))
theorem s132n : Sound Try.prog th 132 (fnC d132 ofV132 f132n) := fnC_refine s132 fun v h => by
  obtain ⟨hp, _⟩ := h
  obtain ⟨a, b, c⟩ := n132 v hp
  exact ⟨a, b.symm, (qdd132 v).symm, c, by show 2 ≤ 2; decide⟩
noncomputable def nice132n : List (Nat × CF th.R) := (132, lift (fnC d132 ofV132 f132n)) :: nice91n
theorem nok132n : NiceOk Try.prog th nice132n := ⟨lift_sound s132n, nok91n⟩
set_option maxRecDepth 100000
set_option maxRecDepth 100000
noncomputable def nice67n : List (Nat × CF th.R) := nice132n
theorem nok67n : NiceOk Try.prog th nice67n := nok132n
set_option maxRecDepth 100000
structure V135 where
  at_ : Int
  f : Int
  c : Int
  M : th.R
def A135 (v : V135) : List SV := [.ptr 0 0, .int .u64 v.at_]
def H135 (v : V135) : List (HO th.R) := [.cells 175 [.ptr 1 0, .int .u64 v.f, .int .i64 v.c], .res v.M]
def toV135 (v : V135) : List (Vl th.R) := [.i v.at_, .i v.f, .i v.c, .r v.M]
def ofV135 : List (Vl th.R) → Option V135
  | [.i at_, .i f, .i c, .r M] => some ⟨at_, f, c, M⟩
  | _ => none
def d135 : Ft := ⟨[.ptr 0 0, .int .u64], [.cells 175 [.ptr 1 0, .int .u64, .int .i64], .res]⟩
noncomputable def f135_0 (v : V135) : (Prop) := pre29 (V29.mk v.at_ v.M)
noncomputable def f135_1 (v : V135) : (Int) := cnd (ldE v.M v.at_ != (0:Int)) (ldE v.M v.at_) (cnd (v.at_ == (0:Int)) (12:Int) (cnd ((ld v.M v.at_).k != (0:Int)) (16:Int) (0:Int)))
noncomputable def ff135 (v : V135) : Tr (Fin th.R) := (Tr.need (f135_0 v) (Tr.leaf (SV.int .i64 (f135_1 v), [(HO.cells (175:Nat) [(SV.ptr (1:Nat) (0:Nat)), SV.int .u64 (v.f), SV.int .i64 (v.c)]), HO.res (v.M)], List.nil)))
noncomputable def f135 (v : V135) : Tr (Fin th.R) := (Tr.need (f135_0 v) (Tr.leaf (SV.int .i64 (f135_1 v), [(HO.cells (175:Nat) [(SV.ptr (1:Nat) (0:Nat)), SV.int .u64 (v.f), SV.int .i64 (v.c)]), HO.res (v.M)], [])))
noncomputable def C135 : CF th.R := fnC d135 ofV135 (f135 )
theorem q135 (v : V135) : (evFn th Try.prog (auto th Try.prog nice67n [] 20) (autoH [] [] [] [] : Hints th) 135) (A135 v) (H135 v) = some (ff135 v) := by kernel_rfl
theorem qg135 (v : V135) : ((ff135 v).map (setD [])).get = (f135 v).get := by kernel_rfl
theorem qd135 (v : V135) : allD 2 [] (ff135 v) = true := by kernel_rfl
theorem s135 : Sound Try.prog th 135 (C135 ) := fnC_sound (evFn_sound' (T := th) (P := Try.prog) (tbl := (auto th Try.prog nice67n [] 20)) (auto_sound (nice := nice67n) (us := []) nok67n 20) (H := (autoH [] [] [] [] : Hints th)) (k := 135) (fnLoops (LoopsOk_mem (fun _ => rfl) _ fun _ _ _ e => by cases e))) d135 A135 H135 toV135 (by kernel_rfl) (fun v => by kernel_rfl)
  (fun l v h => by
    unfold ofV135 at h
    split at h
    · cases h; rfl
    · cases h)
  [] (fun v => ⟨ff135 v, q135 v, id, qg135 v, qd135 v⟩)
theorem qdd135 (v : V135) : (f135 v).get.2.2 = [] := by
  rw [← qg135, Tr.map_get]; rfl
set_option maxRecDepth 100000
def pre135 (v : V135) : Prop := U64 v.at_
theorem n135 (v : V135) (h : pre135 v) : (f135 v).ok ∧ (f135 v).get.1 = .int .i64 (frE v.M v.at_) ∧ HOws (f135 v).get.2.1 [HO.cells 175 [.ptr 1 0, .int .u64 (v.f), .int .i64 (v.c)], HO.res v.M] := by
  exact ⟨⟨h, trivial⟩, rfl, .refl _⟩
noncomputable def f135n (v : V135) : Tr (Fin th.R) := .need (pre135 v) (.leaf (.int .i64 (frE v.M v.at_), [.cells 175 [.ptr 1 0, .int .u64 (v.f), .int .i64 (v.c)], .res v.M], []))
theorem s135n : Sound Try.prog th 135 (fnC d135 ofV135 f135n) := fnC_refine s135 fun v h => by
  obtain ⟨hp, _⟩ := h
  obtain ⟨a, b, c⟩ := n135 v hp
  exact ⟨a, b.symm, (qdd135 v).symm, c, by show 2 ≤ 2; decide⟩
noncomputable def nice135n : List (Nat × CF th.R) := (135, lift (fnC d135 ofV135 f135n)) :: nice67n
theorem nok135n : NiceOk Try.prog th nice135n := ⟨lift_sound s135n, nok67n⟩
set_option maxRecDepth 100000
structure V55 where
  f : Int
  c : Int
  M : th.R
def A55 (v : V55) : List SV := [.ptr 0 0]
def H55 (v : V55) : List (HO th.R) := [.cells 175 [.ptr 1 0, .int .u64 v.f, .int .i64 v.c], .res v.M]
def toV55 (v : V55) : List (Vl th.R) := [.i v.f, .i v.c, .r v.M]
def ofV55 : List (Vl th.R) → Option V55
  | [.i f, .i c, .r M] => some ⟨f, c, M⟩
  | _ => none
def d55 : Ft := ⟨[.ptr 0 0], [.cells 175 [.ptr 1 0, .int .u64, .int .i64], .res]⟩

noncomputable def ff55 (v : V55) : Tr (Fin th.R) := (Tr.leaf (SV.int .i64 (v.c), [(HO.cells (175:Nat) [(SV.ptr (1:Nat) (0:Nat)), SV.int .u64 (v.f), SV.int .i64 (v.c)]), HO.res (v.M)], List.nil))
noncomputable def f55 (v : V55) : Tr (Fin th.R) := (Tr.leaf (SV.int .i64 (v.c), [(HO.cells (175:Nat) [(SV.ptr (1:Nat) (0:Nat)), SV.int .u64 (v.f), SV.int .i64 (v.c)]), HO.res (v.M)], []))
noncomputable def C55 : CF th.R := fnC d55 ofV55 (f55 )
theorem q55 (v : V55) : (evFn th Try.prog (auto th Try.prog nice135n [] 20) (autoH [] [] [] [] : Hints th) 55) (A55 v) (H55 v) = some (ff55 v) := by kernel_rfl
theorem qg55 (v : V55) : ((ff55 v).map (setD [])).get = (f55 v).get := by kernel_rfl
theorem qd55 (v : V55) : allD 2 [] (ff55 v) = true := by kernel_rfl
theorem s55 : Sound Try.prog th 55 (C55 ) := fnC_sound (evFn_sound' (T := th) (P := Try.prog) (tbl := (auto th Try.prog nice135n [] 20)) (auto_sound (nice := nice135n) (us := []) nok135n 20) (H := (autoH [] [] [] [] : Hints th)) (k := 55) (fnLoops (LoopsOk_mem (fun _ => rfl) _ fun _ _ _ e => by cases e))) d55 A55 H55 toV55 (by kernel_rfl) (fun v => by kernel_rfl)
  (fun l v h => by
    unfold ofV55 at h
    split at h
    · cases h; rfl
    · cases h)
  [] (fun v => ⟨ff55 v, q55 v, id, qg55 v, qd55 v⟩)
noncomputable def nice55 : List (Nat × CF th.R) := (55, lift C55) :: nice135n
theorem nok55 : NiceOk Try.prog th nice55 := ⟨lift_sound s55, nok135n⟩
set_option maxRecDepth 100000
structure V108 where
  M : th.R
def A108 (v : V108) : List SV := [.ptr 0 0]
def H108 (v : V108) : List (HO th.R) := [.res v.M]
def toV108 (v : V108) : List (Vl th.R) := [.r v.M]
def ofV108 : List (Vl th.R) → Option V108
  | [.r M] => some ⟨M⟩
  | _ => none
def d108 : Ft := ⟨[.ptr 0 0], [.res]⟩

noncomputable def ff108 (v : V108) : Tr (Fin th.R) := (Tr.leaf ((SV.ptr (1) (0:Nat)), [HO.res (v.M), (HO.cells (175:Nat) [(SV.ptr (0:Nat) (0:Nat)), (SV.int .u64 (0:Int)), (SV.int .i64 (0:Int))])], List.nil))
noncomputable def f108 (v : V108) : Tr (Fin th.R) := (Tr.leaf ((SV.ptr (1) (0:Nat)), [HO.res (v.M), (HO.cells (175:Nat) [(SV.ptr (0:Nat) (0:Nat)), (SV.int .u64 (0:Int)), (SV.int .i64 (0:Int))])], []))
noncomputable def C108 : CF th.R := fnC d108 ofV108 (f108 )
theorem q108 (v : V108) : (evFn th Try.prog (auto th Try.prog nice55 [] 20) (autoH [] [] [] [] : Hints th) 108) (A108 v) (H108 v) = some (ff108 v) := by kernel_rfl
theorem qg108 (v : V108) : ((ff108 v).map (setD [])).get = (f108 v).get := by kernel_rfl
theorem qd108 (v : V108) : allD 1 [] (ff108 v) = true := by kernel_rfl
theorem s108 : Sound Try.prog th 108 (C108 ) := fnC_sound (evFn_sound' (T := th) (P := Try.prog) (tbl := (auto th Try.prog nice55 [] 20)) (auto_sound (nice := nice55) (us := []) nok55 20) (H := (autoH [] [] [] [] : Hints th)) (k := 108) (fnLoops (LoopsOk_mem (fun _ => rfl) _ fun _ _ _ e => by cases e))) d108 A108 H108 toV108 (by kernel_rfl) (fun v => by kernel_rfl)
  (fun l v h => by
    unfold ofV108 at h
    split at h
    · cases h; rfl
    · cases h)
  [] (fun v => ⟨ff108 v, q108 v, id, qg108 v, qd108 v⟩)
noncomputable def nice108 : List (Nat × CF th.R) := (108, lift C108) :: nice55
theorem nok108 : NiceOk Try.prog th nice108 := ⟨lift_sound s108, nok55⟩
set_option maxRecDepth 100000
structure V137a where
  at_ : Int
  f : Int
  c : Int
  y : Int
  M : th.R
def A137a (v : V137a) : List SV := [.ptr 0 0, .int .u64 v.at_, .fn 181 [.ptr 1 0]]
def H137a (v : V137a) : List (HO th.R) := [.cells 175 [.ptr 2 0, .int .u64 v.f, .int .i64 v.c], .cells 22 [.int .u64 v.y], .res v.M]
def toV137a (v : V137a) : List (Vl th.R) := [.i v.at_, .i v.f, .i v.c, .i v.y, .r v.M]
def ofV137a : List (Vl th.R) → Option V137a
  | [.i at_, .i f, .i c, .i y, .r M] => some ⟨at_, f, c, y, M⟩
  | _ => none
def d137a : Ft := ⟨[.ptr 0 0, .int .u64, .fn 181 [.ptr 1 0]], [.cells 175 [.ptr 2 0, .int .u64, .int .i64], .cells 22 [.int .u64], .res]⟩
noncomputable def f137a_3 (v : V137a) : (V91) := V91.mk v.at_ (ld v.M v.at_).k (ld v.M v.at_).a (ld v.M v.at_).b (ld v.M v.at_).r (ld v.M v.at_).g (ld v.M v.at_).s (ld v.M v.at_).m v.y (ld v.M v.at_).p (ld v.M v.at_).d v.M
noncomputable def f137a_0 (v : V137a) : (Prop) := (v.at_ == (0:Int)) = false → pre29 (V29.mk v.at_ v.M)
noncomputable def f137a_1 (v : V137a) : (Prop) := (v.at_ == (0:Int)) = false → pre91 (f137a_3 v)
noncomputable def f137a_2 (v : V137a) : (Mem) := mrgM (v.at_ == (0:Int)) v.M (stM v.M v.at_ (slOf (f137a_3 v)))
noncomputable def ff137a (v : V137a) : Tr (Fin th.R) := (Tr.need (f137a_0 v) (Tr.need (f137a_1 v) (Tr.leaf (SV.tup [], [(HO.cells (175:Nat) [(SV.ptr (2:Nat) (0:Nat)), SV.int .u64 (v.f), SV.int .i64 (v.c)]), (HO.cells (22:Nat) [SV.int .u64 (v.y)]), HO.res (f137a_2 v)], [(2:Nat)]))))
noncomputable def f137a (v : V137a) : Tr (Fin th.R) := (Tr.need (f137a_0 v) (Tr.need (f137a_1 v) (Tr.leaf (SV.tup [], [(HO.cells (175:Nat) [(SV.ptr (2:Nat) (0:Nat)), SV.int .u64 (v.f), SV.int .i64 (v.c)]), (HO.cells (22:Nat) [SV.int .u64 (v.y)]), HO.res (f137a_2 v)], [2]))))
noncomputable def C137a : CF th.R := fnC d137a ofV137a (f137a )
theorem q137a (v : V137a) : (evFn th Try.prog (auto th Try.prog nice108 [] 20) (autoH [] [] [] [] : Hints th) 137) (A137a v) (H137a v) = some (ff137a v) := by kernel_rfl
theorem qg137a (v : V137a) : ((ff137a v).map (setD [2])).get = (f137a v).get := by kernel_rfl
theorem qd137a (v : V137a) : allD 3 [2] (ff137a v) = true := by kernel_rfl
theorem s137a : Sound Try.prog th 137 (C137a ) := fnC_sound (evFn_sound' (T := th) (P := Try.prog) (tbl := (auto th Try.prog nice108 [] 20)) (auto_sound (nice := nice108) (us := []) nok108 20) (H := (autoH [] [] [] [] : Hints th)) (k := 137) (fnLoops (LoopsOk_mem (fun _ => rfl) _ fun _ _ _ e => by cases e))) d137a A137a H137a toV137a (by kernel_rfl) (fun v => by kernel_rfl)
  (fun l v h => by
    unfold ofV137a at h
    split at h
    · cases h; rfl
    · cases h)
  [2] (fun v => ⟨ff137a v, q137a v, id, qg137a v, qd137a v⟩)
theorem qdd137a (v : V137a) : (f137a v).get.2.2 = [2] := by
  rw [← qg137a, Tr.map_get]; rfl
set_option maxRecDepth 100000
def pre137a (v : V137a) : Prop := U64 v.at_ ∧ MemR v.M ∧ U64 v.y
theorem n137a (v : V137a) (h : pre137a v) : (f137a v).ok ∧ (f137a v).get.1 = .tup [] ∧ HOws (f137a v).get.2.1 [HO.cells 175 [.ptr 2 0, .int .u64 (v.f), .int .i64 (v.c)], HO.cells 22 [.int .u64 v.y], HO.res (tX v.M v.at_ v.y)] := by
  exact ⟨⟨fun _ => h.1, fun _ => ⟨h.1, (ld_SlR h.2.1 _).setX h.2.2⟩, trivial⟩, rfl, .refl _⟩
noncomputable def f137an (v : V137a) : Tr (Fin th.R) := .need (pre137a v) (.leaf (.tup [], [.cells 175 [.ptr 2 0, .int .u64 (v.f), .int .i64 (v.c)], .cells 22 [.int .u64 v.y], .res (tX v.M v.at_ v.y)], [2]))
theorem s137an : Sound Try.prog th 137 (fnC d137a ofV137a f137an) := fnC_refine s137a fun v h => by
  obtain ⟨hp, _⟩ := h
  obtain ⟨a, b, c⟩ := n137a v hp
  exact ⟨a, b.symm, (qdd137a v).symm, c, by show 3 ≤ 3; decide⟩
noncomputable def D137a : CF th.R := fnC d137a ofV137a f137an
set_option maxRecDepth 100000
structure V137b where
  at_ : Int
  f : Int
  c : Int
  y : Int
  M : th.R
def A137b (v : V137b) : List SV := [.ptr 0 0, .int .u64 v.at_, .fn 182 [.ptr 1 0]]
def H137b (v : V137b) : List (HO th.R) := [.cells 175 [.ptr 2 0, .int .u64 v.f, .int .i64 v.c], .cells 22 [.int .u64 v.y], .res v.M]
def toV137b (v : V137b) : List (Vl th.R) := [.i v.at_, .i v.f, .i v.c, .i v.y, .r v.M]
def ofV137b : List (Vl th.R) → Option V137b
  | [.i at_, .i f, .i c, .i y, .r M] => some ⟨at_, f, c, y, M⟩
  | _ => none
def d137b : Ft := ⟨[.ptr 0 0, .int .u64, .fn 182 [.ptr 1 0]], [.cells 175 [.ptr 2 0, .int .u64, .int .i64], .cells 22 [.int .u64], .res]⟩
noncomputable def f137b_3 (v : V137b) : (V91) := V91.mk v.at_ (ld v.M v.at_).k (ld v.M v.at_).a (ld v.M v.at_).b (ld v.M v.at_).r (ld v.M v.at_).g (ld v.M v.at_).s (ld v.M v.at_).m (ld v.M v.at_).x v.y (ld v.M v.at_).d v.M
noncomputable def f137b_0 (v : V137b) : (Prop) := (v.at_ == (0:Int)) = false → pre29 (V29.mk v.at_ v.M)
noncomputable def f137b_1 (v : V137b) : (Prop) := (v.at_ == (0:Int)) = false → pre91 (f137b_3 v)
noncomputable def f137b_2 (v : V137b) : (Mem) := mrgM (v.at_ == (0:Int)) v.M (stM v.M v.at_ (slOf (f137b_3 v)))
noncomputable def ff137b (v : V137b) : Tr (Fin th.R) := (Tr.need (f137b_0 v) (Tr.need (f137b_1 v) (Tr.leaf (SV.tup [], [(HO.cells (175:Nat) [(SV.ptr (2:Nat) (0:Nat)), SV.int .u64 (v.f), SV.int .i64 (v.c)]), (HO.cells (22:Nat) [SV.int .u64 (v.y)]), HO.res (f137b_2 v)], [(2:Nat)]))))
noncomputable def f137b (v : V137b) : Tr (Fin th.R) := (Tr.need (f137b_0 v) (Tr.need (f137b_1 v) (Tr.leaf (SV.tup [], [(HO.cells (175:Nat) [(SV.ptr (2:Nat) (0:Nat)), SV.int .u64 (v.f), SV.int .i64 (v.c)]), (HO.cells (22:Nat) [SV.int .u64 (v.y)]), HO.res (f137b_2 v)], [2]))))
noncomputable def C137b : CF th.R := fnC d137b ofV137b (f137b )
theorem q137b (v : V137b) : (evFn th Try.prog (auto th Try.prog nice108 [] 20) (autoH [] [] [] [] : Hints th) 137) (A137b v) (H137b v) = some (ff137b v) := by kernel_rfl
theorem qg137b (v : V137b) : ((ff137b v).map (setD [2])).get = (f137b v).get := by kernel_rfl
theorem qd137b (v : V137b) : allD 3 [2] (ff137b v) = true := by kernel_rfl
theorem s137b : Sound Try.prog th 137 (C137b ) := fnC_sound (evFn_sound' (T := th) (P := Try.prog) (tbl := (auto th Try.prog nice108 [] 20)) (auto_sound (nice := nice108) (us := []) nok108 20) (H := (autoH [] [] [] [] : Hints th)) (k := 137) (fnLoops (LoopsOk_mem (fun _ => rfl) _ fun _ _ _ e => by cases e))) d137b A137b H137b toV137b (by kernel_rfl) (fun v => by kernel_rfl)
  (fun l v h => by
    unfold ofV137b at h
    split at h
    · cases h; rfl
    · cases h)
  [2] (fun v => ⟨ff137b v, q137b v, id, qg137b v, qd137b v⟩)
theorem qdd137b (v : V137b) : (f137b v).get.2.2 = [2] := by
  rw [← qg137b, Tr.map_get]; rfl
set_option maxRecDepth 100000
def pre137b (v : V137b) : Prop := U64 v.at_ ∧ MemR v.M ∧ U64 v.y
theorem n137b (v : V137b) (h : pre137b v) : (f137b v).ok ∧ (f137b v).get.1 = .tup [] ∧ HOws (f137b v).get.2.1 [HO.cells 175 [.ptr 2 0, .int .u64 (v.f), .int .i64 (v.c)], HO.cells 22 [.int .u64 v.y], HO.res (tP v.M v.at_ v.y)] := by
  exact ⟨⟨fun _ => h.1, fun _ => ⟨h.1, (ld_SlR h.2.1 _).setP h.2.2⟩, trivial⟩, rfl, .refl _⟩
noncomputable def f137bn (v : V137b) : Tr (Fin th.R) := .need (pre137b v) (.leaf (.tup [], [.cells 175 [.ptr 2 0, .int .u64 (v.f), .int .i64 (v.c)], .cells 22 [.int .u64 v.y], .res (tP v.M v.at_ v.y)], [2]))
theorem s137bn : Sound Try.prog th 137 (fnC d137b ofV137b f137bn) := fnC_refine s137b fun v h => by
  obtain ⟨hp, _⟩ := h
  obtain ⟨a, b, c⟩ := n137b v hp
  exact ⟨a, b.symm, (qdd137b v).symm, c, by show 3 ≤ 3; decide⟩
noncomputable def D137b : CF th.R := fnC d137b ofV137b f137bn
set_option maxRecDepth 100000
structure V137c where
  at_ : Int
  f : Int
  c : Int
  kz : Int
  az : Int
  bz : Int
  rz : Int
  gz : Int
  sz : Int
  mz : Int
  M : th.R
def A137c (v : V137c) : List SV := [.ptr 0 0, .int .u64 v.at_, .fn 179 [.ptr 1 0]]
def H137c (v : V137c) : List (HO th.R) := [.cells 175 [.ptr 2 0, .int .u64 v.f, .int .i64 v.c], .cells 38 [.int .i64 v.kz, .int .u64 v.az, .int .i64 v.bz, .int .i64 v.rz, .int .i64 v.gz, .int .i64 v.sz, .int .u64 v.mz], .res v.M]
def toV137c (v : V137c) : List (Vl th.R) := [.i v.at_, .i v.f, .i v.c, .i v.kz, .i v.az, .i v.bz, .i v.rz, .i v.gz, .i v.sz, .i v.mz, .r v.M]
def ofV137c : List (Vl th.R) → Option V137c
  | [.i at_, .i f, .i c, .i kz, .i az, .i bz, .i rz, .i gz, .i sz, .i mz, .r M] => some ⟨at_, f, c, kz, az, bz, rz, gz, sz, mz, M⟩
  | _ => none
def d137c : Ft := ⟨[.ptr 0 0, .int .u64, .fn 179 [.ptr 1 0]], [.cells 175 [.ptr 2 0, .int .u64, .int .i64], .cells 38 [.int .i64, .int .u64, .int .i64, .int .i64, .int .i64, .int .i64, .int .u64], .res]⟩
noncomputable def f137c_3 (v : V137c) : (V91) := V91.mk v.at_ v.kz v.az v.bz v.rz v.gz v.sz v.mz (ld v.M v.at_).x (ld v.M v.at_).p (ld v.M v.at_).d v.M
noncomputable def f137c_0 (v : V137c) : (Prop) := (v.at_ == (0:Int)) = false → pre29 (V29.mk v.at_ v.M)
noncomputable def f137c_1 (v : V137c) : (Prop) := (v.at_ == (0:Int)) = false → pre91 (f137c_3 v)
noncomputable def f137c_2 (v : V137c) : (Mem) := mrgM (v.at_ == (0:Int)) v.M (stM v.M v.at_ (slOf (f137c_3 v)))
noncomputable def ff137c (v : V137c) : Tr (Fin th.R) := (Tr.need (f137c_0 v) (Tr.need (f137c_1 v) (Tr.leaf (SV.tup [], [(HO.cells (175:Nat) [(SV.ptr (2:Nat) (0:Nat)), SV.int .u64 (v.f), SV.int .i64 (v.c)]), (HO.cells (38:Nat) [SV.int .i64 (v.kz), SV.int .u64 (v.az), SV.int .i64 (v.bz), SV.int .i64 (v.rz), SV.int .i64 (v.gz), SV.int .i64 (v.sz), SV.int .u64 (v.mz)]), HO.res (f137c_2 v)], [(2:Nat)]))))
noncomputable def f137c (v : V137c) : Tr (Fin th.R) := (Tr.need (f137c_0 v) (Tr.need (f137c_1 v) (Tr.leaf (SV.tup [], [(HO.cells (175:Nat) [(SV.ptr (2:Nat) (0:Nat)), SV.int .u64 (v.f), SV.int .i64 (v.c)]), (HO.cells (38:Nat) [SV.int .i64 (v.kz), SV.int .u64 (v.az), SV.int .i64 (v.bz), SV.int .i64 (v.rz), SV.int .i64 (v.gz), SV.int .i64 (v.sz), SV.int .u64 (v.mz)]), HO.res (f137c_2 v)], [2]))))
noncomputable def C137c : CF th.R := fnC d137c ofV137c (f137c )
theorem q137c (v : V137c) : (evFn th Try.prog (auto th Try.prog nice108 [] 20) (autoH [] [] [] [] : Hints th) 137) (A137c v) (H137c v) = some (ff137c v) := by kernel_rfl
theorem qg137c (v : V137c) : ((ff137c v).map (setD [2])).get = (f137c v).get := by kernel_rfl
theorem qd137c (v : V137c) : allD 3 [2] (ff137c v) = true := by kernel_rfl
theorem s137c : Sound Try.prog th 137 (C137c ) := fnC_sound (evFn_sound' (T := th) (P := Try.prog) (tbl := (auto th Try.prog nice108 [] 20)) (auto_sound (nice := nice108) (us := []) nok108 20) (H := (autoH [] [] [] [] : Hints th)) (k := 137) (fnLoops (LoopsOk_mem (fun _ => rfl) _ fun _ _ _ e => by cases e))) d137c A137c H137c toV137c (by kernel_rfl) (fun v => by kernel_rfl)
  (fun l v h => by
    unfold ofV137c at h
    split at h
    · cases h; rfl
    · cases h)
  [2] (fun v => ⟨ff137c v, q137c v, id, qg137c v, qd137c v⟩)
theorem qdd137c (v : V137c) : (f137c v).get.2.2 = [2] := by
  rw [← qg137c, Tr.map_get]; rfl
set_option maxRecDepth 100000
def pre137c (v : V137c) : Prop := U64 v.at_ ∧ MemR v.M ∧ SlR (Sl.mk v.kz v.az v.bz v.rz v.gz v.sz v.mz 0 0 0)
theorem n137c (v : V137c) (h : pre137c v) : (f137c v).ok ∧ (f137c v).get.1 = .tup [] ∧ HOws (f137c v).get.2.1 [HO.cells 175 [.ptr 2 0, .int .u64 (v.f), .int .i64 (v.c)], HO.cells 38 [.int .i64 v.kz, .int .u64 v.az, .int .i64 v.bz, .int .i64 v.rz, .int .i64 v.gz, .int .i64 v.sz, .int .u64 v.mz], HO.res (tC v.M v.at_ (Sl.mk v.kz v.az v.bz v.rz v.gz v.sz v.mz 0 0 0))] := by
  exact ⟨⟨fun _ => h.1, fun _ => ⟨h.1, (ld_SlR h.2.1 _).setC h.2.2⟩, trivial⟩, rfl, .refl _⟩
noncomputable def f137cn (v : V137c) : Tr (Fin th.R) := .need (pre137c v) (.leaf (.tup [], [.cells 175 [.ptr 2 0, .int .u64 (v.f), .int .i64 (v.c)], .cells 38 [.int .i64 v.kz, .int .u64 v.az, .int .i64 v.bz, .int .i64 v.rz, .int .i64 v.gz, .int .i64 v.sz, .int .u64 v.mz], .res (tC v.M v.at_ (Sl.mk v.kz v.az v.bz v.rz v.gz v.sz v.mz 0 0 0))], [2]))
theorem s137cn : Sound Try.prog th 137 (fnC d137c ofV137c f137cn) := fnC_refine s137c fun v h => by
  obtain ⟨hp, _⟩ := h
  obtain ⟨a, b, c⟩ := n137c v hp
  exact ⟨a, b.symm, (qdd137c v).symm, c, by show 3 ≤ 3; decide⟩
noncomputable def D137c : CF th.R := fnC d137c ofV137c f137cn
set_option maxRecDepth 100000
structure V137d where
  at_ : Int
  f : Int
  c : Int
  M : th.R
def A137d (v : V137d) : List SV := [.ptr 0 0, .int .u64 v.at_, .fn 138 []]
def H137d (v : V137d) : List (HO th.R) := [.cells 175 [.ptr 1 0, .int .u64 v.f, .int .i64 v.c], .res v.M]
def toV137d (v : V137d) : List (Vl th.R) := [.i v.at_, .i v.f, .i v.c, .r v.M]
def ofV137d : List (Vl th.R) → Option V137d
  | [.i at_, .i f, .i c, .r M] => some ⟨at_, f, c, M⟩
  | _ => none
def d137d : Ft := ⟨[.ptr 0 0, .int .u64, .fn 138 []], [.cells 175 [.ptr 1 0, .int .u64, .int .i64], .res]⟩
noncomputable def f137d_3 (v : V137d) : (V91) := V91.mk v.at_ (ld v.M v.at_).k (ld v.M v.at_).a (ld v.M v.at_).b (ld v.M v.at_).r (ld v.M v.at_).g (ld v.M v.at_).s (ld v.M v.at_).m (ld v.M v.at_).x (ld v.M v.at_).p (IntKind.i64.wrap ((ld v.M v.at_).d - (1:Int))) v.M
noncomputable def f137d_0 (v : V137d) : (Prop) := (v.at_ == (0:Int)) = false → pre29 (V29.mk v.at_ v.M)
noncomputable def f137d_1 (v : V137d) : (Prop) := (v.at_ == (0:Int)) = false → pre91 (f137d_3 v)
noncomputable def f137d_2 (v : V137d) : (Mem) := mrgM (v.at_ == (0:Int)) v.M (stM v.M v.at_ (slOf (f137d_3 v)))
noncomputable def ff137d (v : V137d) : Tr (Fin th.R) := (Tr.need (f137d_0 v) (Tr.need (f137d_1 v) (Tr.leaf (SV.tup [], [(HO.cells (175:Nat) [(SV.ptr (1:Nat) (0:Nat)), SV.int .u64 (v.f), SV.int .i64 (v.c)]), HO.res (f137d_2 v)], [(1:Nat)]))))
noncomputable def f137d (v : V137d) : Tr (Fin th.R) := (Tr.need (f137d_0 v) (Tr.need (f137d_1 v) (Tr.leaf (SV.tup [], [(HO.cells (175:Nat) [(SV.ptr (1:Nat) (0:Nat)), SV.int .u64 (v.f), SV.int .i64 (v.c)]), HO.res (f137d_2 v)], [1]))))
noncomputable def C137d : CF th.R := fnC d137d ofV137d (f137d )
theorem q137d (v : V137d) : (evFn th Try.prog (auto th Try.prog nice108 [] 20) (autoH [] [] [] [] : Hints th) 137) (A137d v) (H137d v) = some (ff137d v) := by kernel_rfl
theorem qg137d (v : V137d) : ((ff137d v).map (setD [1])).get = (f137d v).get := by kernel_rfl
theorem qd137d (v : V137d) : allD 2 [1] (ff137d v) = true := by kernel_rfl
theorem s137d : Sound Try.prog th 137 (C137d ) := fnC_sound (evFn_sound' (T := th) (P := Try.prog) (tbl := (auto th Try.prog nice108 [] 20)) (auto_sound (nice := nice108) (us := []) nok108 20) (H := (autoH [] [] [] [] : Hints th)) (k := 137) (fnLoops (LoopsOk_mem (fun _ => rfl) _ fun _ _ _ e => by cases e))) d137d A137d H137d toV137d (by kernel_rfl) (fun v => by kernel_rfl)
  (fun l v h => by
    unfold ofV137d at h
    split at h
    · cases h; rfl
    · cases h)
  [1] (fun v => ⟨ff137d v, q137d v, id, qg137d v, qd137d v⟩)
theorem qdd137d (v : V137d) : (f137d v).get.2.2 = [1] := by
  rw [← qg137d, Tr.map_get]; rfl
set_option maxRecDepth 100000
def pre137d (v : V137d) : Prop := U64 v.at_ ∧ MemR v.M
theorem n137d (v : V137d) (h : pre137d v) : (f137d v).ok ∧ (f137d v).get.1 = .tup [] ∧ HOws (f137d v).get.2.1 [HO.cells 175 [.ptr 1 0, .int .u64 (v.f), .int .i64 (v.c)], HO.res (tD v.M v.at_)] := by
  exact ⟨⟨fun _ => h.1, fun _ => ⟨h.1, (ld_SlR h.2 _).setD (wrapI _)⟩, trivial⟩, rfl, .refl _⟩
noncomputable def f137dn (v : V137d) : Tr (Fin th.R) := .need (pre137d v) (.leaf (.tup [], [.cells 175 [.ptr 1 0, .int .u64 (v.f), .int .i64 (v.c)], .res (tD v.M v.at_)], [1]))
theorem s137dn : Sound Try.prog th 137 (fnC d137d ofV137d f137dn) := fnC_refine s137d fun v h => by
  obtain ⟨hp, _⟩ := h
  obtain ⟨a, b, c⟩ := n137d v hp
  exact ⟨a, b.symm, (qdd137d v).symm, c, by show 2 ≤ 2; decide⟩
noncomputable def D137d : CF th.R := fnC d137d ofV137d f137dn
noncomputable def nice137dn : List (Nat × CF th.R) := (137, lift (orC D137a (orC D137b (orC D137c D137d)))) :: nice108
theorem nok137dn : NiceOk Try.prog th nice137dn := ⟨lift_sound (orC_sound s137an (orC_sound s137bn (orC_sound s137cn s137dn))), nok108⟩
set_option maxRecDepth 100000
structure V136 where
  a : Int
  b : Int
  f : Int
  c : Int
  M : th.R
def A136 (v : V136) : List SV := [.ptr 0 0, .int .u64 v.a, .int .u64 v.b]
def H136 (v : V136) : List (HO th.R) := [.cells 175 [.ptr 1 0, .int .u64 v.f, .int .i64 v.c], .res v.M]
def toV136 (v : V136) : List (Vl th.R) := [.i v.a, .i v.b, .i v.f, .i v.c, .r v.M]
def ofV136 : List (Vl th.R) → Option V136
  | [.i a, .i b, .i f, .i c, .r M] => some ⟨a, b, f, c, M⟩
  | _ => none
def d136 : Ft := ⟨[.ptr 0 0, .int .u64, .int .u64], [.cells 175 [.ptr 1 0, .int .u64, .int .i64], .res]⟩
noncomputable def f136_5 (v : V136) : (Int) := cnd (v.a == (0:Int)) v.b v.f
noncomputable def f136_6 (v : V136) : (Int) := cnd (v.a == (0:Int)) v.c v.c
noncomputable def f136_0 (v : V136) : (Prop) := pre137a (V137a.mk v.a (f136_5 v) (f136_6 v) v.b v.M)
noncomputable def f136_1 (v : V136) : (Prop) := pre137b (V137b.mk v.b (f136_5 v) (f136_6 v) v.a (tX v.M v.a v.b))
noncomputable def f136_2 (v : V136) : (Int) := f136_5 v
noncomputable def f136_3 (v : V136) : (Int) := f136_6 v
noncomputable def f136_4 (v : V136) : (Mem) := tP (tX v.M v.a v.b) v.b v.a
noncomputable def ff136 (v : V136) : Tr (Fin th.R) := (Tr.need (f136_0 v) (Tr.need (f136_1 v) (Tr.leaf (SV.tup [], [(HO.cells (175:Nat) [(SV.ptr (1:Nat) (0:Nat)), SV.int .u64 (f136_2 v), SV.int .i64 (f136_3 v)]), HO.res (f136_4 v)], [(1:Nat), (1:Nat), (0:Nat)]))))
noncomputable def f136 (v : V136) : Tr (Fin th.R) := (Tr.need (f136_0 v) (Tr.need (f136_1 v) (Tr.leaf (SV.tup [], [(HO.cells (175:Nat) [(SV.ptr (1:Nat) (0:Nat)), SV.int .u64 (f136_2 v), SV.int .i64 (f136_3 v)]), HO.res (f136_4 v)], [0, 1]))))
noncomputable def C136 : CF th.R := fnC d136 ofV136 (f136 )
theorem q136 (v : V136) : (evFn th Try.prog (auto th Try.prog nice137dn [] 20) (autoH [] [] [] [] : Hints th) 136) (A136 v) (H136 v) = some (ff136 v) := by kernel_rfl
theorem qg136 (v : V136) : ((ff136 v).map (setD [0, 1])).get = (f136 v).get := by kernel_rfl
theorem qd136 (v : V136) : allD 2 [0, 1] (ff136 v) = true := by kernel_rfl
theorem s136 : Sound Try.prog th 136 (C136 ) := fnC_sound (evFn_sound' (T := th) (P := Try.prog) (tbl := (auto th Try.prog nice137dn [] 20)) (auto_sound (nice := nice137dn) (us := []) nok137dn 20) (H := (autoH [] [] [] [] : Hints th)) (k := 136) (fnLoops (LoopsOk_mem (fun _ => rfl) _ fun _ _ _ e => by cases e))) d136 A136 H136 toV136 (by kernel_rfl) (fun v => by kernel_rfl)
  (fun l v h => by
    unfold ofV136 at h
    split at h
    · cases h; rfl
    · cases h)
  [0, 1] (fun v => ⟨ff136 v, q136 v, id, qg136 v, qd136 v⟩)
theorem qdd136 (v : V136) : (f136 v).get.2.2 = [0, 1] := by
  rw [← qg136, Tr.map_get]; rfl
set_option maxRecDepth 100000
def pre136 (v : V136) : Prop := U64 v.a ∧ U64 v.b ∧ MemR v.M
theorem n136 (v : V136) (h : pre136 v) : (f136 v).ok ∧ (f136 v).get.1 = .tup [] ∧ HOws (f136 v).get.2.1 [HO.cells 175 [.ptr 1 0, .int .u64 (tieF v.f v.a v.b), .int .i64 (v.c)], HO.res (tieM v.M v.a v.b)] := by
  refine ⟨⟨⟨h.1, h.2.2, h.2.1⟩, ⟨h.2.1, tX_MemR h.2.2 h.2.1 _, h.1⟩, trivial⟩, rfl, ?_⟩
  simp only [f136, Tr.get, f136_2, f136_3, f136_5, f136_6, cnd_same]
  exact .refl _
noncomputable def f136n (v : V136) : Tr (Fin th.R) := .need (pre136 v) (.leaf (.tup [], [.cells 175 [.ptr 1 0, .int .u64 (tieF v.f v.a v.b), .int .i64 (v.c)], .res (tieM v.M v.a v.b)], [0, 1]))
theorem s136n : Sound Try.prog th 136 (fnC d136 ofV136 f136n) := fnC_refine s136 fun v h => by
  obtain ⟨hp, _⟩ := h
  obtain ⟨a, b, c⟩ := n136 v hp
  exact ⟨a, b.symm, (qdd136 v).symm, c, by show 2 ≤ 2; decide⟩
noncomputable def nice136n : List (Nat × CF th.R) := (136, lift (fnC d136 ofV136 f136n)) :: nice137dn
theorem nok136n : NiceOk Try.prog th nice136n := ⟨lift_sound s136n, nok137dn⟩
set_option maxRecDepth 100000
structure V133 where
  at_ : Int
  k : Int
  a : Int
  b : Int
  r : Int
  g : Int
  s : Int
  m : Int
  f : Int
  c : Int
  M : th.R
def A133 (v : V133) : List SV := [.ptr 0 0, .int .u64 v.at_, .agg [.int .i64 v.k, .int .u64 v.a, .int .i64 v.b, .int .i64 v.r, .int .i64 v.g, .int .i64 v.s, .int .u64 v.m]]
def H133 (v : V133) : List (HO th.R) := [.cells 175 [.ptr 1 0, .int .u64 v.f, .int .i64 v.c], .res v.M]
def toV133 (v : V133) : List (Vl th.R) := [.i v.at_, .i v.k, .i v.a, .i v.b, .i v.r, .i v.g, .i v.s, .i v.m, .i v.f, .i v.c, .r v.M]
def ofV133 : List (Vl th.R) → Option V133
  | [.i at_, .i k, .i a, .i b, .i r, .i g, .i s, .i m, .i f, .i c, .r M] => some ⟨at_, k, a, b, r, g, s, m, f, c, M⟩
  | _ => none
def d133 : Ft := ⟨[.ptr 0 0, .int .u64, .agg [.int .i64, .int .u64, .int .i64, .int .i64, .int .i64, .int .i64, .int .u64]], [.cells 175 [.ptr 1 0, .int .u64, .int .i64], .res]⟩
noncomputable def f133_2 (v : V133) : (Int) := f178_0 v.k v.a v.b v.r v.g v.s v.m
noncomputable def f133_0 (v : V133) : (Prop) := pre135 (V135.mk v.at_ v.f v.c v.M)
noncomputable def f133_1 (v : V133) : (Int) := cnd (frE v.M v.at_ != (0:Int)) (frE v.M v.at_) (cnd (f133_2 v != (0:Int)) (f133_2 v) (cnd (decide (v.c ≥ (65536:Int))) (15:Int) (0:Int)))
noncomputable def ff133 (v : V133) : Tr (Fin th.R) := (Tr.need (f133_0 v) (Tr.leaf (SV.int .i64 (f133_1 v), [(HO.cells (175:Nat) [(SV.ptr (1:Nat) (0:Nat)), SV.int .u64 (v.f), SV.int .i64 (v.c)]), HO.res (v.M)], List.nil)))
noncomputable def f133 (v : V133) : Tr (Fin th.R) := (Tr.need (f133_0 v) (Tr.leaf (SV.int .i64 (f133_1 v), [(HO.cells (175:Nat) [(SV.ptr (1:Nat) (0:Nat)), SV.int .u64 (v.f), SV.int .i64 (v.c)]), HO.res (v.M)], [])))
noncomputable def C133 : CF th.R := fnC d133 ofV133 (f133 )
theorem q133 (v : V133) : (evFn th Try.prog (auto th Try.prog nice136n [] 20) (autoH [] [] [] [] : Hints th) 133) (A133 v) (H133 v) = some (ff133 v) := by kernel_rfl
theorem qg133 (v : V133) : ((ff133 v).map (setD [])).get = (f133 v).get := by kernel_rfl
theorem qd133 (v : V133) : allD 2 [] (ff133 v) = true := by kernel_rfl
theorem s133 : Sound Try.prog th 133 (C133 ) := fnC_sound (evFn_sound' (T := th) (P := Try.prog) (tbl := (auto th Try.prog nice136n [] 20)) (auto_sound (nice := nice136n) (us := []) nok136n 20) (H := (autoH [] [] [] [] : Hints th)) (k := 133) (fnLoops (LoopsOk_mem (fun _ => rfl) _ fun _ _ _ e => by cases e))) d133 A133 H133 toV133 (by kernel_rfl) (fun v => by kernel_rfl)
  (fun l v h => by
    unfold ofV133 at h
    split at h
    · cases h; rfl
    · cases h)
  [] (fun v => ⟨ff133 v, q133 v, id, qg133 v, qd133 v⟩)
theorem qdd133 (v : V133) : (f133 v).get.2.2 = [] := by
  rw [← qg133, Tr.map_get]; rfl
set_option maxRecDepth 100000
def pre133 (v : V133) : Prop := U64 v.at_
theorem n133 (v : V133) (h : pre133 v) : (f133 v).ok ∧ (f133 v).get.1 = .int .i64 (ftE v.M v.c v.at_ (Sl.mk v.k v.a v.b v.r v.g v.s v.m 0 0 0)) ∧ HOws (f133 v).get.2.1 [HO.cells 175 [.ptr 1 0, .int .u64 (v.f), .int .i64 (v.c)], HO.res v.M] := by
  exact ⟨⟨h, trivial⟩, rfl, .refl _⟩
noncomputable def f133n (v : V133) : Tr (Fin th.R) := .need (pre133 v) (.leaf (.int .i64 (ftE v.M v.c v.at_ (Sl.mk v.k v.a v.b v.r v.g v.s v.m 0 0 0)), [.cells 175 [.ptr 1 0, .int .u64 (v.f), .int .i64 (v.c)], .res v.M], []))
theorem s133n : Sound Try.prog th 133 (fnC d133 ofV133 f133n) := fnC_refine s133 fun v h => by
  obtain ⟨hp, _⟩ := h
  obtain ⟨a, b, c⟩ := n133 v hp
  exact ⟨a, b.symm, (qdd133 v).symm, c, by show 2 ≤ 2; decide⟩
noncomputable def nice133n : List (Nat × CF th.R) := (133, lift (fnC d133 ofV133 f133n)) :: nice136n
theorem nok133n : NiceOk Try.prog th nice133n := ⟨lift_sound s133n, nok136n⟩
set_option maxRecDepth 100000
structure V134 where
  a : Int
  b : Int
  at_ : Int
  kq : Int
  aq : Int
  bq : Int
  rq : Int
  gq : Int
  sq : Int
  mq : Int
  d : Int
  f : Int
  c : Int
  M : th.R
def A134 (v : V134) : List SV := [.ptr 0 0, .int .u64 v.a, .int .u64 v.b, .int .u64 v.at_, .agg [.int .i64 v.kq, .int .u64 v.aq, .int .i64 v.bq, .int .i64 v.rq, .int .i64 v.gq, .int .i64 v.sq, .int .u64 v.mq], .int .i64 v.d]
def H134 (v : V134) : List (HO th.R) := [.cells 175 [.ptr 1 0, .int .u64 v.f, .int .i64 v.c], .res v.M]
def toV134 (v : V134) : List (Vl th.R) := [.i v.a, .i v.b, .i v.at_, .i v.kq, .i v.aq, .i v.bq, .i v.rq, .i v.gq, .i v.sq, .i v.mq, .i v.d, .i v.f, .i v.c, .r v.M]
def ofV134 : List (Vl th.R) → Option V134
  | [.i a, .i b, .i at_, .i kq, .i aq, .i bq, .i rq, .i gq, .i sq, .i mq, .i d, .i f, .i c, .r M] => some ⟨a, b, at_, kq, aq, bq, rq, gq, sq, mq, d, f, c, M⟩
  | _ => none
def d134 : Ft := ⟨[.ptr 0 0, .int .u64, .int .u64, .int .u64, .agg [.int .i64, .int .u64, .int .i64, .int .i64, .int .i64, .int .i64, .int .u64], .int .i64], [.cells 175 [.ptr 1 0, .int .u64, .int .i64], .res]⟩
noncomputable def f134_6 (v : V134) : (V91) := V91.mk v.at_ v.kq v.aq v.bq v.rq v.gq v.sq v.mq (0:Int) (0:Int) v.d v.M
noncomputable def f134_7 (v : V134) : (Mem) := stM v.M v.at_ (slOf (f134_6 v))
noncomputable def f134_8 (v : V134) : (Mem) := tieM (f134_7 v) v.a v.at_
noncomputable def f134_0 (v : V134) : (Prop) := pre91 (f134_6 v)
noncomputable def f134_1 (v : V134) : (Prop) := pre136 (V136.mk v.a v.at_ v.f v.c (f134_7 v))
noncomputable def f134_2 (v : V134) : (Prop) := pre136 (V136.mk v.at_ v.b (tieF v.f v.a v.at_) v.c (f134_8 v))
noncomputable def f134_3 (v : V134) : (Int) := tieF (tieF v.f v.a v.at_) v.at_ v.b
noncomputable def f134_4 (v : V134) : (Int) := IntKind.i64.wrap (v.c + (1:Int))
noncomputable def f134_5 (v : V134) : (Mem) := tieM (f134_8 v) v.at_ v.b
noncomputable def ff134 (v : V134) : Tr (Fin th.R) := (Tr.need (f134_0 v) (Tr.need (f134_1 v) (Tr.need (f134_2 v) (Tr.leaf (SV.tup [], [(HO.cells (175:Nat) [(SV.ptr (1:Nat) (0:Nat)), SV.int .u64 (f134_3 v), SV.int .i64 (f134_4 v)]), HO.res (f134_5 v)], [(0:Nat), (0:Nat), (1:Nat), (0:Nat), (1:Nat), (1:Nat)])))))
noncomputable def f134 (v : V134) : Tr (Fin th.R) := (Tr.need (f134_0 v) (Tr.need (f134_1 v) (Tr.need (f134_2 v) (Tr.leaf (SV.tup [], [(HO.cells (175:Nat) [(SV.ptr (1:Nat) (0:Nat)), SV.int .u64 (f134_3 v), SV.int .i64 (f134_4 v)]), HO.res (f134_5 v)], [0, 1])))))
noncomputable def C134 : CF th.R := fnC d134 ofV134 (f134 )
theorem q134 (v : V134) : (evFn th Try.prog (auto th Try.prog nice133n [] 20) (autoH [] [] [] [] : Hints th) 134) (A134 v) (H134 v) = some (ff134 v) := by kernel_rfl
theorem qg134 (v : V134) : ((ff134 v).map (setD [0, 1])).get = (f134 v).get := by kernel_rfl
theorem qd134 (v : V134) : allD 2 [0, 1] (ff134 v) = true := by kernel_rfl
theorem s134 : Sound Try.prog th 134 (C134 ) := fnC_sound (evFn_sound' (T := th) (P := Try.prog) (tbl := (auto th Try.prog nice133n [] 20)) (auto_sound (nice := nice133n) (us := []) nok133n 20) (H := (autoH [] [] [] [] : Hints th)) (k := 134) (fnLoops (LoopsOk_mem (fun _ => rfl) _ fun _ _ _ e => by cases e))) d134 A134 H134 toV134 (by kernel_rfl) (fun v => by kernel_rfl)
  (fun l v h => by
    unfold ofV134 at h
    split at h
    · cases h; rfl
    · cases h)
  [0, 1] (fun v => ⟨ff134 v, q134 v, id, qg134 v, qd134 v⟩)
theorem qdd134 (v : V134) : (f134 v).get.2.2 = [0, 1] := by
  rw [← qg134, Tr.map_get]; rfl
set_option maxRecDepth 100000
def pre134 (v : V134) : Prop := (U64 v.a ∧ U64 v.b ∧ U64 v.at_) ∧ (SlR (Sl.mk v.kq v.aq v.bq v.rq v.gq v.sq v.mq 0 0 0) ∧ I64 v.d) ∧ MemR v.M
theorem n134 (v : V134) (h : pre134 v) : (f134 v).ok ∧ (f134 v).get.1 = .tup [] ∧ HOws (f134 v).get.2.1 [HO.cells 175 [.ptr 1 0, .int .u64 (insF v.f v.a v.b v.at_), .int .i64 (IntKind.i64.wrap (v.c + 1))], HO.res (insM v.M v.a v.b v.at_ (Sl.mk v.kq v.aq v.bq v.rq v.gq v.sq v.mq 0 0 0) v.d)] := by
  obtain ⟨⟨a1, a2, a3⟩, ⟨a4, a5⟩, a6⟩ := h
  exact ⟨⟨⟨a3, a4.fresh a5⟩, ⟨a1, a3, st_MemR a6 (a4.fresh a5) _⟩, ⟨a3, a2, tie_MemR (st_MemR a6 (a4.fresh a5) _) a1 a3⟩, trivial⟩, rfl, .refl _⟩
noncomputable def f134n (v : V134) : Tr (Fin th.R) := .need (pre134 v) (.leaf (.tup [], [.cells 175 [.ptr 1 0, .int .u64 (insF v.f v.a v.b v.at_), .int .i64 (IntKind.i64.wrap (v.c + 1))], .res (insM v.M v.a v.b v.at_ (Sl.mk v.kq v.aq v.bq v.rq v.gq v.sq v.mq 0 0 0) v.d)], [0, 1]))
theorem s134n : Sound Try.prog th 134 (fnC d134 ofV134 f134n) := fnC_refine s134 fun v h => by
  obtain ⟨hp, _⟩ := h
  obtain ⟨a, b, c⟩ := n134 v hp
  exact ⟨a, b.symm, (qdd134 v).symm, c, by show 2 ≤ 2; decide⟩
noncomputable def nice134n : List (Nat × CF th.R) := (134, lift (fnC d134 ofV134 f134n)) :: nice133n
theorem nok134n : NiceOk Try.prog th nice134n := ⟨lift_sound s134n, nok133n⟩
set_option maxRecDepth 100000
structure V59 where
  at_ : Int
  f : Int
  c : Int
  M : th.R
def A59 (v : V59) : List SV := [.ptr 0 0, .int .u64 v.at_]
def H59 (v : V59) : List (HO th.R) := [.cells 175 [.ptr 1 0, .int .u64 v.f, .int .i64 v.c], .res v.M]
def toV59 (v : V59) : List (Vl th.R) := [.i v.at_, .i v.f, .i v.c, .r v.M]
def ofV59 : List (Vl th.R) → Option V59
  | [.i at_, .i f, .i c, .r M] => some ⟨at_, f, c, M⟩
  | _ => none
def d59 : Ft := ⟨[.ptr 0 0, .int .u64], [.cells 175 [.ptr 1 0, .int .u64, .int .i64], .res]⟩
noncomputable def f59_0 (v : V59) : (Prop) := pre132 (V132.mk v.at_ v.f v.c v.M)
noncomputable def f59_1 (v : V59) : (Int) := cnd (hdE v.M v.at_ != (0:Int)) (-1:Int) (ld v.M v.at_).d
noncomputable def ff59 (v : V59) : Tr (Fin th.R) := (Tr.need (f59_0 v) (Tr.leaf (SV.int .i64 (f59_1 v), [(HO.cells (175:Nat) [(SV.ptr (1:Nat) (0:Nat)), SV.int .u64 (v.f), SV.int .i64 (v.c)]), HO.res (v.M)], List.nil)))
noncomputable def f59 (v : V59) : Tr (Fin th.R) := (Tr.need (f59_0 v) (Tr.leaf (SV.int .i64 (f59_1 v), [(HO.cells (175:Nat) [(SV.ptr (1:Nat) (0:Nat)), SV.int .u64 (v.f), SV.int .i64 (v.c)]), HO.res (v.M)], [])))
noncomputable def C59 : CF th.R := fnC d59 ofV59 (f59 )
theorem q59 (v : V59) : (evFn th Try.prog (auto th Try.prog nice134n [] 20) (autoH [] [] [] [] : Hints th) 59) (A59 v) (H59 v) = some (ff59 v) := by kernel_rfl
theorem qg59 (v : V59) : ((ff59 v).map (setD [])).get = (f59 v).get := by kernel_rfl
theorem qd59 (v : V59) : allD 2 [] (ff59 v) = true := by kernel_rfl
theorem s59 : Sound Try.prog th 59 (C59 ) := fnC_sound (evFn_sound' (T := th) (P := Try.prog) (tbl := (auto th Try.prog nice134n [] 20)) (auto_sound (nice := nice134n) (us := []) nok134n 20) (H := (autoH [] [] [] [] : Hints th)) (k := 59) (fnLoops (LoopsOk_mem (fun _ => rfl) _ fun _ _ _ e => by cases e))) d59 A59 H59 toV59 (by kernel_rfl) (fun v => by kernel_rfl)
  (fun l v h => by
    unfold ofV59 at h
    split at h
    · cases h; rfl
    · cases h)
  [] (fun v => ⟨ff59 v, q59 v, id, qg59 v, qd59 v⟩)
theorem qdd59 (v : V59) : (f59 v).get.2.2 = [] := by
  rw [← qg59, Tr.map_get]; rfl
set_option maxRecDepth 100000
def pre59 (v : V59) : Prop := U64 v.at_
theorem n59 (v : V59) (h : pre59 v) : (f59 v).ok ∧ (f59 v).get.1 = .int .i64 (dpE v.M v.at_) ∧ HOws (f59 v).get.2.1 [HO.cells 175 [.ptr 1 0, .int .u64 (v.f), .int .i64 (v.c)], HO.res v.M] := by
  exact ⟨⟨h, trivial⟩, rfl, .refl _⟩
noncomputable def f59n (v : V59) : Tr (Fin th.R) := .need (pre59 v) (.leaf (.int .i64 (dpE v.M v.at_), [.cells 175 [.ptr 1 0, .int .u64 (v.f), .int .i64 (v.c)], .res v.M], []))
theorem s59n : Sound Try.prog th 59 (fnC d59 ofV59 f59n) := fnC_refine s59 fun v h => by
  obtain ⟨hp, _⟩ := h
  obtain ⟨a, b, c⟩ := n59 v hp
  exact ⟨a, b.symm, (qdd59 v).symm, c, by show 2 ≤ 2; decide⟩
noncomputable def nice59n : List (Nat × CF th.R) := (59, lift (fnC d59 ofV59 f59n)) :: nice134n
theorem nok59n : NiceOk Try.prog th nice59n := ⟨lift_sound s59n, nok134n⟩
set_option maxRecDepth 100000
set_option maxRecDepth 100000
structure V131 where
  a : Int
  b : Int
  f : Int
  c : Int
  M : th.R
def A131 (v : V131) : List SV := [.ptr 0 0, .int .u64 v.a, .int .u64 v.b]
def H131 (v : V131) : List (HO th.R) := [.cells 175 [.ptr 1 0, .int .u64 v.f, .int .i64 v.c], .res v.M]
def toV131 (v : V131) : List (Vl th.R) := [.i v.a, .i v.b, .i v.f, .i v.c, .r v.M]
def ofV131 : List (Vl th.R) → Option V131
  | [.i a, .i b, .i f, .i c, .r M] => some ⟨a, b, f, c, M⟩
  | _ => none
def d131 : Ft := ⟨[.ptr 0 0, .int .u64, .int .u64], [.cells 175 [.ptr 1 0, .int .u64, .int .i64], .res]⟩
noncomputable def f131_12 (v : V131) : (Bool) := hdE v.M v.a != (0:Int)
noncomputable def f131_13 (v : V131) : (Bool) := cnd (hdE v.M v.b != (0:Int)) true (v.a == v.b)
noncomputable def f131_14 (v : V131) : (V91) := V91.mk v.a (ld v.M v.b).k (ld v.M v.b).a (ld v.M v.b).b (ld v.M v.b).r (ld v.M v.b).g (ld v.M v.b).s (ld v.M v.b).m (ld v.M v.b).x (ld v.M v.b).p (ld v.M v.b).d v.M
noncomputable def f131_15 (v : V131) : (Mem) := stM v.M v.a (slOf (f131_14 v))
noncomputable def f131_16 (v : V131) : (V91) := V91.mk v.b (ld v.M v.a).k (ld v.M v.a).a (ld v.M v.a).b (ld v.M v.a).r (ld v.M v.a).g (ld v.M v.a).s (ld v.M v.a).m (ld v.M v.a).x (ld v.M v.a).p (ld v.M v.a).d (f131_15 v)
noncomputable def f131_17 (v : V131) : (Mem) := stM (f131_15 v) v.b (slOf (f131_16 v))
noncomputable def f131_18 (v : V131) : (Int) := tieF v.f (f180_0 (ld v.M v.a).p v.a v.b) v.b
noncomputable def f131_19 (v : V131) : (Mem) := tieM (f131_17 v) (f180_0 (ld v.M v.a).p v.a v.b) v.b
noncomputable def f131_20 (v : V131) : (Int) := tieF (f131_18 v) v.b (f180_0 (ld v.M v.a).x v.a v.b)
noncomputable def f131_21 (v : V131) : (Mem) := tieM (f131_19 v) v.b (f180_0 (ld v.M v.a).x v.a v.b)
noncomputable def f131_22 (v : V131) : (Int) := tieF (f131_20 v) (f180_0 (ld v.M v.b).p v.a v.b) v.a
noncomputable def f131_23 (v : V131) : (Mem) := tieM (f131_21 v) (f180_0 (ld v.M v.b).p v.a v.b) v.a
noncomputable def f131_0 (v : V131) : (Prop) := pre132 (V132.mk v.a v.f v.c v.M)
noncomputable def f131_1 (v : V131) : (Prop) := f131_12 v = false → pre132 (V132.mk v.b v.f v.c v.M)
noncomputable def f131_2 (v : V131) : (Prop) := f131_12 v = false → f131_13 v = false → pre91 (f131_14 v)
noncomputable def f131_3 (v : V131) : (Prop) := f131_12 v = false → f131_13 v = false → pre91 (f131_16 v)
noncomputable def f131_4 (v : V131) : (Prop) := f131_12 v = false → f131_13 v = false → pre136 (V136.mk (f180_0 (ld v.M v.a).p v.a v.b) v.b v.f v.c (f131_17 v))
noncomputable def f131_5 (v : V131) : (Prop) := f131_12 v = false → f131_13 v = false → pre136 (V136.mk v.b (f180_0 (ld v.M v.a).x v.a v.b) (f131_18 v) v.c (f131_19 v))
noncomputable def f131_6 (v : V131) : (Prop) := f131_12 v = false → f131_13 v = false → pre136 (V136.mk (f180_0 (ld v.M v.b).p v.a v.b) v.a (f131_20 v) v.c (f131_21 v))
noncomputable def f131_7 (v : V131) : (Prop) := f131_12 v = false → f131_13 v = false → pre136 (V136.mk v.a (f180_0 (ld v.M v.b).x v.a v.b) (f131_22 v) v.c (f131_23 v))
noncomputable def f131_8 (v : V131) : (Int) := cnd (f131_12 v) (hdE v.M v.a) (cnd (f131_13 v) (hdE v.M v.b) (0:Int))
noncomputable def f131_9 (v : V131) : (Int) := cnd (f131_12 v) v.f (cnd (f131_13 v) v.f (tieF (f131_22 v) v.a (f180_0 (ld v.M v.b).x v.a v.b)))
noncomputable def f131_10 (v : V131) : (Int) := cnd (f131_12 v) v.c (cnd (f131_13 v) v.c v.c)
noncomputable def f131_11 (v : V131) : (Mem) := mrgM (f131_12 v) v.M (mrgM (f131_13 v) v.M (tieM (f131_23 v) v.a (f180_0 (ld v.M v.b).x v.a v.b)))
noncomputable def ff131 (v : V131) : Tr (Fin th.R) := (Tr.need (f131_0 v) (Tr.need (f131_1 v) (Tr.need (f131_2 v) (Tr.need (f131_3 v) (Tr.need (f131_4 v) (Tr.need (f131_5 v) (Tr.need (f131_6 v) (Tr.need (f131_7 v) (Tr.leaf (SV.int .i64 (f131_8 v), [(HO.cells (175:Nat) [(SV.ptr (1:Nat) (0:Nat)), SV.int .u64 (f131_9 v), SV.int .i64 (f131_10 v)]), HO.res (f131_11 v)], [(0:Nat), (1:Nat), (0:Nat), (1:Nat), (0:Nat), (1:Nat), (0:Nat), (1:Nat), (1:Nat), (1:Nat)]))))))))))
noncomputable def f131 (v : V131) : Tr (Fin th.R) := (Tr.need (f131_0 v) (Tr.need (f131_1 v) (Tr.need (f131_2 v) (Tr.need (f131_3 v) (Tr.need (f131_4 v) (Tr.need (f131_5 v) (Tr.need (f131_6 v) (Tr.need (f131_7 v) (Tr.leaf (SV.int .i64 (f131_8 v), [(HO.cells (175:Nat) [(SV.ptr (1:Nat) (0:Nat)), SV.int .u64 (f131_9 v), SV.int .i64 (f131_10 v)]), HO.res (f131_11 v)], [0, 1]))))))))))
noncomputable def C131 : CF th.R := fnC d131 ofV131 (f131 )
theorem q131 (v : V131) : (evFn th Try.prog (auto th Try.prog nice59n [] 20) (autoH [] [] [] [] : Hints th) 131) (A131 v) (H131 v) = some (ff131 v) := by kernel_rfl
theorem qg131 (v : V131) : ((ff131 v).map (setD [0, 1])).get = (f131 v).get := by kernel_rfl
theorem qd131 (v : V131) : allD 2 [0, 1] (ff131 v) = true := by kernel_rfl
theorem s131 : Sound Try.prog th 131 (C131 ) := fnC_sound (evFn_sound' (T := th) (P := Try.prog) (tbl := (auto th Try.prog nice59n [] 20)) (auto_sound (nice := nice59n) (us := []) nok59n 20) (H := (autoH [] [] [] [] : Hints th)) (k := 131) (fnLoops (LoopsOk_mem (fun _ => rfl) _ fun _ _ _ e => by cases e))) d131 A131 H131 toV131 (by kernel_rfl) (fun v => by kernel_rfl)
  (fun l v h => by
    unfold ofV131 at h
    split at h
    · cases h; rfl
    · cases h)
  [0, 1] (fun v => ⟨ff131 v, q131 v, id, qg131 v, qd131 v⟩)
theorem qdd131 (v : V131) : (f131 v).get.2.2 = [0, 1] := by
  rw [← qg131, Tr.map_get]; rfl
set_option maxRecDepth 100000
structure V61 where
  a : Int
  b : Int
  f : Int
  c : Int
  M : th.R
def A61 (v : V61) : List SV := [.ptr 0 0, .int .u64 v.a, .int .u64 v.b]
def H61 (v : V61) : List (HO th.R) := [.cells 175 [.ptr 1 0, .int .u64 v.f, .int .i64 v.c], .res v.M]
def toV61 (v : V61) : List (Vl th.R) := [.i v.a, .i v.b, .i v.f, .i v.c, .r v.M]
def ofV61 : List (Vl th.R) → Option V61
  | [.i a, .i b, .i f, .i c, .r M] => some ⟨a, b, f, c, M⟩
  | _ => none
def d61 : Ft := ⟨[.ptr 0 0, .int .u64, .int .u64], [.cells 175 [.ptr 1 0, .int .u64, .int .i64], .res]⟩
noncomputable def f61_10 (v : V61) : (Bool) := hdE v.M v.a != (0:Int)
noncomputable def f61_11 (v : V61) : (Bool) := frE v.M v.b != (0:Int)
noncomputable def f61_12 (v : V61) : (V91) := V91.mk v.a (0:Int) (0:Int) (0:Int) (0:Int) (0:Int) (0:Int) (0:Int) (0:Int) (0:Int) (0:Int) v.M
noncomputable def f61_13 (v : V61) : (Mem) := stM v.M v.a (slOf (f61_12 v))
noncomputable def f61_14 (v : V61) : (V91) := V91.mk v.b (ld v.M v.a).k (ld v.M v.a).a (ld v.M v.a).b (ld v.M v.a).r (ld v.M v.a).g (ld v.M v.a).s (ld v.M v.a).m (ld v.M v.a).x (ld v.M v.a).p (ld v.M v.a).d (f61_13 v)
noncomputable def f61_15 (v : V61) : (Mem) := stM (f61_13 v) v.b (slOf (f61_14 v))
noncomputable def f61_16 (v : V61) : (Mem) := tieM (f61_15 v) (ld v.M v.a).p v.b
noncomputable def f61_0 (v : V61) : (Prop) := pre132 (V132.mk v.a v.f v.c v.M)
noncomputable def f61_1 (v : V61) : (Prop) := f61_10 v = false → pre135 (V135.mk v.b v.f v.c v.M)
noncomputable def f61_2 (v : V61) : (Prop) := f61_10 v = false → f61_11 v = false → pre91 (f61_12 v)
noncomputable def f61_3 (v : V61) : (Prop) := f61_10 v = false → f61_11 v = false → pre91 (f61_14 v)
noncomputable def f61_4 (v : V61) : (Prop) := f61_10 v = false → f61_11 v = false → pre136 (V136.mk (ld v.M v.a).p v.b v.f v.c (f61_15 v))
noncomputable def f61_5 (v : V61) : (Prop) := f61_10 v = false → f61_11 v = false → pre136 (V136.mk v.b (ld v.M v.a).x (tieF v.f (ld v.M v.a).p v.b) v.c (f61_16 v))
noncomputable def f61_6 (v : V61) : (Int) := cnd (f61_10 v) (hdE v.M v.a) (cnd (f61_11 v) (frE v.M v.b) (0:Int))
noncomputable def f61_7 (v : V61) : (Int) := cnd (f61_10 v) v.f (cnd (f61_11 v) v.f (tieF (tieF v.f (ld v.M v.a).p v.b) v.b (ld v.M v.a).x))
noncomputable def f61_8 (v : V61) : (Int) := cnd (f61_10 v) v.c (cnd (f61_11 v) v.c v.c)
noncomputable def f61_9 (v : V61) : (Mem) := mrgM (f61_10 v) v.M (mrgM (f61_11 v) v.M (tieM (f61_16 v) v.b (ld v.M v.a).x))
noncomputable def ff61 (v : V61) : Tr (Fin th.R) := (Tr.need (f61_0 v) (Tr.need (f61_1 v) (Tr.need (f61_2 v) (Tr.need (f61_3 v) (Tr.need (f61_4 v) (Tr.need (f61_5 v) (Tr.leaf (SV.int .i64 (f61_6 v), [(HO.cells (175:Nat) [(SV.ptr (1:Nat) (0:Nat)), SV.int .u64 (f61_7 v), SV.int .i64 (f61_8 v)]), HO.res (f61_9 v)], [(0:Nat), (1:Nat), (0:Nat), (1:Nat), (1:Nat), (1:Nat)]))))))))
noncomputable def f61 (v : V61) : Tr (Fin th.R) := (Tr.need (f61_0 v) (Tr.need (f61_1 v) (Tr.need (f61_2 v) (Tr.need (f61_3 v) (Tr.need (f61_4 v) (Tr.need (f61_5 v) (Tr.leaf (SV.int .i64 (f61_6 v), [(HO.cells (175:Nat) [(SV.ptr (1:Nat) (0:Nat)), SV.int .u64 (f61_7 v), SV.int .i64 (f61_8 v)]), HO.res (f61_9 v)], [0, 1]))))))))
noncomputable def C61 : CF th.R := fnC d61 ofV61 (f61 )
theorem q61 (v : V61) : (evFn th Try.prog (auto th Try.prog nice59n [] 20) (autoH [] [] [] [] : Hints th) 61) (A61 v) (H61 v) = some (ff61 v) := by kernel_rfl
theorem qg61 (v : V61) : ((ff61 v).map (setD [0, 1])).get = (f61 v).get := by kernel_rfl
theorem qd61 (v : V61) : allD 2 [0, 1] (ff61 v) = true := by kernel_rfl
theorem s61 : Sound Try.prog th 61 (C61 ) := fnC_sound (evFn_sound' (T := th) (P := Try.prog) (tbl := (auto th Try.prog nice59n [] 20)) (auto_sound (nice := nice59n) (us := []) nok59n 20) (H := (autoH [] [] [] [] : Hints th)) (k := 61) (fnLoops (LoopsOk_mem (fun _ => rfl) _ fun _ _ _ e => by cases e))) d61 A61 H61 toV61 (by kernel_rfl) (fun v => by kernel_rfl)
  (fun l v h => by
    unfold ofV61 at h
    split at h
    · cases h; rfl
    · cases h)
  [0, 1] (fun v => ⟨ff61 v, q61 v, id, qg61 v, qd61 v⟩)
theorem qdd61 (v : V61) : (f61 v).get.2.2 = [0, 1] := by
  rw [← qg61, Tr.map_get]; rfl
set_option maxRecDepth 100000
structure V94 where
  at_ : Int
  M : th.R
def A94 (v : V94) : List SV := [.ptr 0 0, .int .u64 v.at_]
def H94 (v : V94) : List (HO th.R) := [.res v.M]
def toV94 (v : V94) : List (Vl th.R) := [.i v.at_, .r v.M]
def ofV94 : List (Vl th.R) → Option V94
  | [.i at_, .r M] => some ⟨at_, M⟩
  | _ => none
def d94 : Ft := ⟨[.ptr 0 0, .int .u64], [.res]⟩
noncomputable def f94_3 (v : V94) : (V91) := V91.mk v.at_ (0:Int) (0:Int) (0:Int) (0:Int) (0:Int) (0:Int) (0:Int) (0:Int) (0:Int) (0:Int) v.M
noncomputable def f94_4 (v : V94) : (Sl) := slOf (f94_3 v)
noncomputable def f94_0 (v : V94) : (Prop) := pre91 (f94_3 v)
noncomputable def f94_1 (v : V94) : (Int) := stE v.M v.at_ (f94_4 v)
noncomputable def f94_2 (v : V94) : (Mem) := stM v.M v.at_ (f94_4 v)
noncomputable def ff94 (v : V94) : Tr (Fin th.R) := (Tr.need (f94_0 v) (Tr.leaf (SV.int .i64 (f94_1 v), [HO.res (f94_2 v)], [(0:Nat)])))
noncomputable def f94 (v : V94) : Tr (Fin th.R) := (Tr.need (f94_0 v) (Tr.leaf (SV.int .i64 (f94_1 v), [HO.res (f94_2 v)], [0])))
noncomputable def C94 : CF th.R := fnC d94 ofV94 (f94 )
theorem q94 (v : V94) : (evFn th Try.prog (auto th Try.prog nice59n [] 20) (autoH [] [] [] [] : Hints th) 94) (A94 v) (H94 v) = some (ff94 v) := by kernel_rfl
theorem qg94 (v : V94) : ((ff94 v).map (setD [0])).get = (f94 v).get := by kernel_rfl
theorem qd94 (v : V94) : allD 1 [0] (ff94 v) = true := by kernel_rfl
theorem s94 : Sound Try.prog th 94 (C94 ) := fnC_sound (evFn_sound' (T := th) (P := Try.prog) (tbl := (auto th Try.prog nice59n [] 20)) (auto_sound (nice := nice59n) (us := []) nok59n 20) (H := (autoH [] [] [] [] : Hints th)) (k := 94) (fnLoops (LoopsOk_mem (fun _ => rfl) _ fun _ _ _ e => by cases e))) d94 A94 H94 toV94 (by kernel_rfl) (fun v => by kernel_rfl)
  (fun l v h => by
    unfold ofV94 at h
    split at h
    · cases h; rfl
    · cases h)
  [0] (fun v => ⟨ff94 v, q94 v, id, qg94 v, qd94 v⟩)
theorem qdd94 (v : V94) : (f94 v).get.2.2 = [0] := by
  rw [← qg94, Tr.map_get]; rfl
set_option maxRecDepth 100000
structure V130 where
  at_ : Int
  k : Int
  a : Int
  b : Int
  r : Int
  g : Int
  s : Int
  m : Int
  f : Int
  c : Int
  M : th.R
def A130 (v : V130) : List SV := [.ptr 0 0, .int .u64 v.at_, .agg [.int .i64 v.k, .int .u64 v.a, .int .i64 v.b, .int .i64 v.r, .int .i64 v.g, .int .i64 v.s, .int .u64 v.m]]
def H130 (v : V130) : List (HO th.R) := [.cells 175 [.ptr 1 0, .int .u64 v.f, .int .i64 v.c], .res v.M]
def toV130 (v : V130) : List (Vl th.R) := [.i v.at_, .i v.k, .i v.a, .i v.b, .i v.r, .i v.g, .i v.s, .i v.m, .i v.f, .i v.c, .r v.M]
def ofV130 : List (Vl th.R) → Option V130
  | [.i at_, .i k, .i a, .i b, .i r, .i g, .i s, .i m, .i f, .i c, .r M] => some ⟨at_, k, a, b, r, g, s, m, f, c, M⟩
  | _ => none
def d130 : Ft := ⟨[.ptr 0 0, .int .u64, .agg [.int .i64, .int .u64, .int .i64, .int .i64, .int .i64, .int .i64, .int .u64]], [.cells 175 [.ptr 1 0, .int .u64, .int .i64], .res]⟩
noncomputable def f130_4 (v : V130) : (Bool) := hdE v.M v.at_ != (0:Int)
noncomputable def f130_5 (v : V130) : (Int) := f178_0 v.k v.a v.b v.r v.g v.s v.m
noncomputable def f130_6 (v : V130) : (Bool) := f130_5 v != (0:Int)
noncomputable def f130_0 (v : V130) : (Prop) := pre132 (V132.mk v.at_ v.f v.c v.M)
noncomputable def f130_1 (v : V130) : (Prop) := f130_4 v = false → f130_6 v = false → pre137c (V137c.mk v.at_ v.f v.c v.k v.a v.b v.r v.g v.s v.m v.M)
noncomputable def f130_2 (v : V130) : (Int) := cnd (f130_4 v) (hdE v.M v.at_) (cnd (f130_6 v) (f130_5 v) (0:Int))
noncomputable def f130_3 (v : V130) : (Mem) := mrgM (f130_4 v) v.M (mrgM (f130_6 v) v.M (tC v.M v.at_ (Sl.mk v.k v.a v.b v.r v.g v.s v.m (0:Int) (0:Int) (0:Int))))
noncomputable def ff130 (v : V130) : Tr (Fin th.R) := (Tr.need (f130_0 v) (Tr.need (f130_1 v) (Tr.leaf (SV.int .i64 (f130_2 v), [(HO.cells (175:Nat) [(SV.ptr (1:Nat) (0:Nat)), SV.int .u64 (v.f), SV.int .i64 (v.c)]), HO.res (f130_3 v)], [(1:Nat)]))))
noncomputable def f130 (v : V130) : Tr (Fin th.R) := (Tr.need (f130_0 v) (Tr.need (f130_1 v) (Tr.leaf (SV.int .i64 (f130_2 v), [(HO.cells (175:Nat) [(SV.ptr (1:Nat) (0:Nat)), SV.int .u64 (v.f), SV.int .i64 (v.c)]), HO.res (f130_3 v)], [1]))))
noncomputable def C130 : CF th.R := fnC d130 ofV130 (f130 )
theorem q130 (v : V130) : (evFn th Try.prog (auto th Try.prog nice59n [] 20) (autoH [] [] [] [] : Hints th) 130) (A130 v) (H130 v) = some (ff130 v) := by kernel_rfl
theorem qg130 (v : V130) : ((ff130 v).map (setD [1])).get = (f130 v).get := by kernel_rfl
theorem qd130 (v : V130) : allD 2 [1] (ff130 v) = true := by kernel_rfl
theorem s130 : Sound Try.prog th 130 (C130 ) := fnC_sound (evFn_sound' (T := th) (P := Try.prog) (tbl := (auto th Try.prog nice59n [] 20)) (auto_sound (nice := nice59n) (us := []) nok59n 20) (H := (autoH [] [] [] [] : Hints th)) (k := 130) (fnLoops (LoopsOk_mem (fun _ => rfl) _ fun _ _ _ e => by cases e))) d130 A130 H130 toV130 (by kernel_rfl) (fun v => by kernel_rfl)
  (fun l v h => by
    unfold ofV130 at h
    split at h
    · cases h; rfl
    · cases h)
  [1] (fun v => ⟨ff130 v, q130 v, id, qg130 v, qd130 v⟩)
theorem qdd130 (v : V130) : (f130 v).get.2.2 = [1] := by
  rw [← qg130, Tr.map_get]; rfl
set_option maxRecDepth 100000
structure V56 where
  par : Int
  at_ : Int
  k : Int
  a : Int
  b : Int
  r : Int
  g : Int
  s : Int
  m : Int
  f : Int
  c : Int
  M : th.R
def A56 (v : V56) : List SV := [.ptr 0 0, .int .u64 v.par, .int .u64 v.at_, .agg [.int .i64 v.k, .int .u64 v.a, .int .i64 v.b, .int .i64 v.r, .int .i64 v.g, .int .i64 v.s, .int .u64 v.m]]
def H56 (v : V56) : List (HO th.R) := [.cells 175 [.ptr 1 0, .int .u64 v.f, .int .i64 v.c], .res v.M]
def toV56 (v : V56) : List (Vl th.R) := [.i v.par, .i v.at_, .i v.k, .i v.a, .i v.b, .i v.r, .i v.g, .i v.s, .i v.m, .i v.f, .i v.c, .r v.M]
def ofV56 : List (Vl th.R) → Option V56
  | [.i par, .i at_, .i k, .i a, .i b, .i r, .i g, .i s, .i m, .i f, .i c, .r M] => some ⟨par, at_, k, a, b, r, g, s, m, f, c, M⟩
  | _ => none
def d56 : Ft := ⟨[.ptr 0 0, .int .u64, .int .u64, .agg [.int .i64, .int .u64, .int .i64, .int .i64, .int .i64, .int .i64, .int .u64]], [.cells 175 [.ptr 1 0, .int .u64, .int .i64], .res]⟩
noncomputable def f56_7 (v : V56) : (Bool) := hdE v.M v.par != (0:Int)
noncomputable def f56_8 (v : V56) : (Sl) := Sl.mk v.k v.a v.b v.r v.g v.s v.m (0:Int) (0:Int) (0:Int)
noncomputable def f56_9 (v : V56) : (Int) := ftE v.M v.c v.at_ (f56_8 v)
noncomputable def f56_10 (v : V56) : (Bool) := f56_9 v != (0:Int)
noncomputable def f56_11 (v : V56) : (Bool) := decide ((ld v.M v.par).d ≥ (4096:Int))
noncomputable def f56_12 (v : V56) : (Int) := IntKind.i64.wrap ((ld v.M v.par).d + (1:Int))
noncomputable def f56_0 (v : V56) : (Prop) := pre132 (V132.mk v.par v.f v.c v.M)
noncomputable def f56_1 (v : V56) : (Prop) := f56_7 v = false → pre133 (V133.mk v.at_ v.k v.a v.b v.r v.g v.s v.m v.f v.c v.M)
noncomputable def f56_2 (v : V56) : (Prop) := f56_7 v = false → f56_10 v = false → f56_11 v = false → pre134 (V134.mk v.par (ld v.M v.par).x v.at_ v.k v.a v.b v.r v.g v.s v.m (f56_12 v) v.f v.c v.M)
noncomputable def f56_3 (v : V56) : (Int) := cnd (f56_7 v) (hdE v.M v.par) (cnd (f56_10 v) (f56_9 v) (cnd (f56_11 v) (42:Int) (0:Int)))
noncomputable def f56_4 (v : V56) : (Int) := cnd (f56_7 v) v.f (cnd (f56_10 v) v.f (cnd (f56_11 v) v.f (insF v.f v.par (ld v.M v.par).x v.at_)))
noncomputable def f56_5 (v : V56) : (Int) := cnd (f56_7 v) v.c (cnd (f56_10 v) v.c (cnd (f56_11 v) v.c (IntKind.i64.wrap (v.c + (1:Int)))))
noncomputable def f56_6 (v : V56) : (Mem) := mrgM (f56_7 v) v.M (mrgM (f56_10 v) v.M (mrgM (f56_11 v) v.M (insM v.M v.par (ld v.M v.par).x v.at_ (f56_8 v) (f56_12 v))))
noncomputable def ff56 (v : V56) : Tr (Fin th.R) := (Tr.need (f56_0 v) (Tr.need (f56_1 v) (Tr.need (f56_2 v) (Tr.leaf (SV.int .i64 (f56_3 v), [(HO.cells (175:Nat) [(SV.ptr (1:Nat) (0:Nat)), SV.int .u64 (f56_4 v), SV.int .i64 (f56_5 v)]), HO.res (f56_6 v)], [(0:Nat), (1:Nat)])))))
noncomputable def f56 (v : V56) : Tr (Fin th.R) := (Tr.need (f56_0 v) (Tr.need (f56_1 v) (Tr.need (f56_2 v) (Tr.leaf (SV.int .i64 (f56_3 v), [(HO.cells (175:Nat) [(SV.ptr (1:Nat) (0:Nat)), SV.int .u64 (f56_4 v), SV.int .i64 (f56_5 v)]), HO.res (f56_6 v)], [0, 1])))))
noncomputable def C56 : CF th.R := fnC d56 ofV56 (f56 )
theorem q56 (v : V56) : (evFn th Try.prog (auto th Try.prog nice59n [] 20) (autoH [] [] [] [] : Hints th) 56) (A56 v) (H56 v) = some (ff56 v) := by kernel_rfl
theorem qg56 (v : V56) : ((ff56 v).map (setD [0, 1])).get = (f56 v).get := by kernel_rfl
theorem qd56 (v : V56) : allD 2 [0, 1] (ff56 v) = true := by kernel_rfl
theorem s56 : Sound Try.prog th 56 (C56 ) := fnC_sound (evFn_sound' (T := th) (P := Try.prog) (tbl := (auto th Try.prog nice59n [] 20)) (auto_sound (nice := nice59n) (us := []) nok59n 20) (H := (autoH [] [] [] [] : Hints th)) (k := 56) (fnLoops (LoopsOk_mem (fun _ => rfl) _ fun _ _ _ e => by cases e))) d56 A56 H56 toV56 (by kernel_rfl) (fun v => by kernel_rfl)
  (fun l v h => by
    unfold ofV56 at h
    split at h
    · cases h; rfl
    · cases h)
  [0, 1] (fun v => ⟨ff56 v, q56 v, id, qg56 v, qd56 v⟩)
theorem qdd56 (v : V56) : (f56 v).get.2.2 = [0, 1] := by
  rw [← qg56, Tr.map_get]; rfl
set_option maxRecDepth 100000
structure V109 where
  at_ : Int
  k : Int
  a : Int
  b : Int
  r : Int
  g : Int
  s : Int
  m : Int
  f : Int
  c : Int
  M : th.R
def A109 (v : V109) : List SV := [.ptr 0 0, .int .u64 v.at_, .agg [.int .i64 v.k, .int .u64 v.a, .int .i64 v.b, .int .i64 v.r, .int .i64 v.g, .int .i64 v.s, .int .u64 v.m]]
def H109 (v : V109) : List (HO th.R) := [.cells 175 [.ptr 1 0, .int .u64 v.f, .int .i64 v.c], .res v.M]
def toV109 (v : V109) : List (Vl th.R) := [.i v.at_, .i v.k, .i v.a, .i v.b, .i v.r, .i v.g, .i v.s, .i v.m, .i v.f, .i v.c, .r v.M]
def ofV109 : List (Vl th.R) → Option V109
  | [.i at_, .i k, .i a, .i b, .i r, .i g, .i s, .i m, .i f, .i c, .r M] => some ⟨at_, k, a, b, r, g, s, m, f, c, M⟩
  | _ => none
def d109 : Ft := ⟨[.ptr 0 0, .int .u64, .agg [.int .i64, .int .u64, .int .i64, .int .i64, .int .i64, .int .i64, .int .u64]], [.cells 175 [.ptr 1 0, .int .u64, .int .i64], .res]⟩
noncomputable def f109_6 (v : V109) : (Sl) := Sl.mk v.k v.a v.b v.r v.g v.s v.m (0:Int) (0:Int) (0:Int)
noncomputable def f109_7 (v : V109) : (Int) := ftE v.M v.c v.at_ (f109_6 v)
noncomputable def f109_8 (v : V109) : (Bool) := f109_7 v != (0:Int)
noncomputable def f109_0 (v : V109) : (Prop) := pre133 (V133.mk v.at_ v.k v.a v.b v.r v.g v.s v.m v.f v.c v.M)
noncomputable def f109_1 (v : V109) : (Prop) := f109_8 v = false → pre134 (V134.mk (0:Int) v.f v.at_ v.k v.a v.b v.r v.g v.s v.m (0:Int) v.f v.c v.M)
noncomputable def f109_2 (v : V109) : (Int) := cnd (f109_8 v) (f109_7 v) (0:Int)
noncomputable def f109_3 (v : V109) : (Int) := cnd (f109_8 v) v.f (insF v.f (0:Int) v.f v.at_)
noncomputable def f109_4 (v : V109) : (Int) := cnd (f109_8 v) v.c (IntKind.i64.wrap (v.c + (1:Int)))
noncomputable def f109_5 (v : V109) : (Mem) := mrgM (f109_8 v) v.M (insM v.M (0:Int) v.f v.at_ (f109_6 v) (0:Int))
noncomputable def ff109 (v : V109) : Tr (Fin th.R) := (Tr.need (f109_0 v) (Tr.need (f109_1 v) (Tr.leaf (SV.int .i64 (f109_2 v), [(HO.cells (175:Nat) [(SV.ptr (1:Nat) (0:Nat)), SV.int .u64 (f109_3 v), SV.int .i64 (f109_4 v)]), HO.res (f109_5 v)], [(0:Nat), (1:Nat)]))))
noncomputable def f109 (v : V109) : Tr (Fin th.R) := (Tr.need (f109_0 v) (Tr.need (f109_1 v) (Tr.leaf (SV.int .i64 (f109_2 v), [(HO.cells (175:Nat) [(SV.ptr (1:Nat) (0:Nat)), SV.int .u64 (f109_3 v), SV.int .i64 (f109_4 v)]), HO.res (f109_5 v)], [0, 1]))))
noncomputable def C109 : CF th.R := fnC d109 ofV109 (f109 )
theorem q109 (v : V109) : (evFn th Try.prog (auto th Try.prog nice59n [] 20) (autoH [] [] [] [] : Hints th) 109) (A109 v) (H109 v) = some (ff109 v) := by kernel_rfl
theorem qg109 (v : V109) : ((ff109 v).map (setD [0, 1])).get = (f109 v).get := by kernel_rfl
theorem qd109 (v : V109) : allD 2 [0, 1] (ff109 v) = true := by kernel_rfl
theorem s109 : Sound Try.prog th 109 (C109 ) := fnC_sound (evFn_sound' (T := th) (P := Try.prog) (tbl := (auto th Try.prog nice59n [] 20)) (auto_sound (nice := nice59n) (us := []) nok59n 20) (H := (autoH [] [] [] [] : Hints th)) (k := 109) (fnLoops (LoopsOk_mem (fun _ => rfl) _ fun _ _ _ e => by cases e))) d109 A109 H109 toV109 (by kernel_rfl) (fun v => by kernel_rfl)
  (fun l v h => by
    unfold ofV109 at h
    split at h
    · cases h; rfl
    · cases h)
  [0, 1] (fun v => ⟨ff109 v, q109 v, id, qg109 v, qd109 v⟩)
theorem qdd109 (v : V109) : (f109 v).get.2.2 = [0, 1] := by
  rw [← qg109, Tr.map_get]; rfl
end Go.Sx.M

namespace Go.Sx.M
open Go Go.Sx
structure TS where
  M : Mem
  f : Int
  c : Int
def TR (t : TS) : Prop := MemR t.M ∧ U64 t.f ∧ I64 t.c
theorem tieF_U {f a b : Int} (hf : U64 f) (hb : U64 b) : U64 (tieF f a b) := cnd_ind hb hf
theorem insF_U {f a b i : Int} (hf : U64 f) (hb : U64 b) (hi : U64 i) : U64 (insF f a b i) := tieF_U (tieF_U hf hi) hb
noncomputable def rtE (t : TS) (a:Int) (z : Sl) : Int := cnd (ftE t.M t.c a z != 0) (ftE t.M t.c a z) 0
noncomputable def rtT (t : TS) (a:Int) (z : Sl) : TS := ⟨mrgM (ftE t.M t.c a z != 0) t.M (insM t.M 0 t.f a z 0), cnd (ftE t.M t.c a z != 0) t.f (insF t.f 0 t.f a), cnd (ftE t.M t.c a z != 0) t.c (IntKind.i64.wrap (t.c + 1))⟩
theorem rtT_R {t : TS} (h : TR t) {a : Int} (ha : U64 a) {z : Sl} (hz : SlR z) : TR (rtT t a z) :=
  ⟨mrg_ind (fun _ => h.1) fun _ => ins_MemR h.1 u0 h.2.1 ha hz i0, cnd_ind h.2.1 (insF_U h.2.1 h.2.1 ha), cnd_ind h.2.2 (wrapI _)⟩
noncomputable def chE (t : TS) (p a:Int) (z : Sl) : Int := cnd (hdE t.M p != 0) (hdE t.M p) (cnd (ftE t.M t.c a z != 0) (ftE t.M t.c a z) (cnd (decide ((ld t.M p).d ≥ 4096)) 42 0))
noncomputable def chT (t : TS) (p a:Int) (z : Sl) : TS :=
  ⟨mrgM (hdE t.M p != 0) t.M (mrgM (ftE t.M t.c a z != 0) t.M (mrgM (decide ((ld t.M p).d ≥ 4096)) t.M (insM t.M p (ld t.M p).x a z (IntKind.i64.wrap ((ld t.M p).d + 1))))),
    cnd (hdE t.M p != 0) t.f (cnd (ftE t.M t.c a z != 0) t.f (cnd (decide ((ld t.M p).d ≥ 4096)) t.f (insF t.f p (ld t.M p).x a))),
    cnd (hdE t.M p != 0) t.c (cnd (ftE t.M t.c a z != 0) t.c (cnd (decide ((ld t.M p).d ≥ 4096)) t.c (IntKind.i64.wrap (t.c + 1))))⟩
theorem chT_R {t : TS} (h : TR t) {p a : Int} (hp : U64 p) (ha : U64 a) {z : Sl} (hz : SlR z) : TR (chT t p a z) :=
  ⟨mrg_ind (fun _ => h.1) fun _ => mrg_ind (fun _ => h.1) fun _ => mrg_ind (fun _ => h.1) fun _ => ins_MemR h.1 hp (ld_SlR h.1 _).x ha hz (wrapI _),
    cnd_ind h.2.1 (cnd_ind h.2.1 (cnd_ind h.2.1 (insF_U h.2.1 (ld_SlR h.1 _).x ha))), cnd_ind h.2.2 (cnd_ind h.2.2 (cnd_ind h.2.2 (wrapI _)))⟩
noncomputable def seE (t : TS) (a:Int) (z : Sl) : Int := cnd (hdE t.M a != 0) (hdE t.M a) (cnd (mayC z != 0) (mayC z) 0)
noncomputable def seT (t : TS) (a:Int) (z : Sl) : TS := ⟨mrgM (hdE t.M a != 0) t.M (mrgM (mayC z != 0) t.M (tC t.M a z)), t.f, t.c⟩
theorem seT_R {t : TS} (h : TR t) {a : Int} {z : Sl} (hz : SlR z) : TR (seT t a z) := ⟨mrg_ind (fun _ => h.1) fun _ => mrg_ind (fun _ => h.1) fun _ => tC_MemR h.1 hz _, h.2⟩
noncomputable def mvM (t : TS) (a b:Int) : Mem := stM (stM t.M a sl0) b (ld t.M a)
noncomputable def mvE (t : TS) (a b:Int) : Int := cnd (hdE t.M a != 0) (hdE t.M a) (cnd (frE t.M b != 0) (frE t.M b) 0)
noncomputable def mvT (t : TS) (a b:Int) : TS :=
  ⟨mrgM (hdE t.M a != 0) t.M (mrgM (frE t.M b != 0) t.M (tieM (tieM (mvM t a b) (ld t.M a).p b) b (ld t.M a).x)),
    cnd (hdE t.M a != 0) t.f (cnd (frE t.M b != 0) t.f (tieF (tieF t.f (ld t.M a).p b) b (ld t.M a).x)), t.c⟩
theorem sl0_R : SlR sl0 := ⟨i0, u0, i0, i0, i0, i0, u0, u0, u0, i0⟩
theorem mvM_R {t : TS} (h : TR t) (a b:Int) : MemR (mvM t a b) := st_MemR (st_MemR h.1 sl0_R _) (ld_SlR h.1 _) _
theorem mvT_R {t : TS} (h : TR t) {a b : Int} (hb : U64 b) : TR (mvT t a b) :=
  ⟨mrg_ind (fun _ => h.1) fun _ => mrg_ind (fun _ => h.1) fun _ => tie_MemR (tie_MemR (mvM_R h a b) (ld_SlR h.1 _).p hb) hb (ld_SlR h.1 _).x,
    cnd_ind h.2.1 (cnd_ind h.2.1 (tieF_U (tieF_U h.2.1 hb) (ld_SlR h.1 _).x)), h.2.2⟩
noncomputable def swM0 (t : TS) (a b:Int) : Mem := stM (stM t.M a (ld t.M b)) b (ld t.M a)
noncomputable def swM1 (t : TS) (a b:Int) : Mem := tieM (swM0 t a b) (f180_0 (ld t.M a).p a b) b
noncomputable def swM2 (t : TS) (a b:Int) : Mem := tieM (swM1 t a b) b (f180_0 (ld t.M a).x a b)
noncomputable def swM3 (t : TS) (a b:Int) : Mem := tieM (swM2 t a b) (f180_0 (ld t.M b).p a b) a
noncomputable def swM4 (t : TS) (a b:Int) : Mem := tieM (swM3 t a b) a (f180_0 (ld t.M b).x a b)
noncomputable def swF1 (t : TS) (a b:Int) : Int := tieF t.f (f180_0 (ld t.M a).p a b) b
noncomputable def swF2 (t : TS) (a b:Int) : Int := tieF (swF1 t a b) b (f180_0 (ld t.M a).x a b)
noncomputable def swF3 (t : TS) (a b:Int) : Int := tieF (swF2 t a b) (f180_0 (ld t.M b).p a b) a
noncomputable def swF4 (t : TS) (a b:Int) : Int := tieF (swF3 t a b) a (f180_0 (ld t.M b).x a b)
noncomputable def swE (t : TS) (a b:Int) : Int := cnd (hdE t.M a != 0) (hdE t.M a) (cnd (cnd (hdE t.M b != 0) true (a == b)) (hdE t.M b) 0)
noncomputable def swT (t : TS) (a b:Int) : TS :=
  ⟨mrgM (hdE t.M a != 0) t.M (mrgM (cnd (hdE t.M b != 0) true (a == b)) t.M (swM4 t a b)), cnd (hdE t.M a != 0) t.f (cnd (cnd (hdE t.M b != 0) true (a == b)) t.f (swF4 t a b)), t.c⟩
theorem oth_U {x a b : Int} (hx : U64 x) (ha : U64 a) (hb : U64 b) : U64 (f180_0 x a b) := by
  unfold f180_0
  first
  | exact cnd_ind hb (cnd_ind ha hx)
  | exact cnd_ind ha (cnd_ind hb hx)
theorem swM0_R {t : TS} (h : TR t) {a b : Int} (ha : U64 a) (hb : U64 b) : MemR (swM0 t a b) := st_MemR (st_MemR h.1 (ld_SlR h.1 _) _) (ld_SlR h.1 _) _
theorem swM1_R {t : TS} (h : TR t) {a b : Int} (ha : U64 a) (hb : U64 b) : MemR (swM1 t a b) := tie_MemR (swM0_R h ha hb) (oth_U (ld_SlR h.1 _).p ha hb) hb
theorem swM2_R {t : TS} (h : TR t) {a b : Int} (ha : U64 a) (hb : U64 b) : MemR (swM2 t a b) := tie_MemR (swM1_R h ha hb) hb (oth_U (ld_SlR h.1 _).x ha hb)
theorem swM3_R {t : TS} (h : TR t) {a b : Int} (ha : U64 a) (hb : U64 b) : MemR (swM3 t a b) := tie_MemR (swM2_R h ha hb) (oth_U (ld_SlR h.1 _).p ha hb) ha
theorem swM4_R {t : TS} (h : TR t) {a b : Int} (ha : U64 a) (hb : U64 b) : MemR (swM4 t a b) := tie_MemR (swM3_R h ha hb) ha (oth_U (ld_SlR h.1 _).x ha hb)
theorem swF1_U {t : TS} (h : TR t) {a b : Int} (ha : U64 a) (hb : U64 b) : U64 (swF1 t a b) := tieF_U h.2.1 hb
theorem swF2_U {t : TS} (h : TR t) {a b : Int} (ha : U64 a) (hb : U64 b) : U64 (swF2 t a b) := tieF_U (swF1_U h ha hb) (oth_U (ld_SlR h.1 _).x ha hb)
theorem swF3_U {t : TS} (h : TR t) {a b : Int} (ha : U64 a) (hb : U64 b) : U64 (swF3 t a b) := tieF_U (swF2_U h ha hb) ha
theorem swF4_U {t : TS} (h : TR t) {a b : Int} (ha : U64 a) (hb : U64 b) : U64 (swF4 t a b) := tieF_U (swF3_U h ha hb) (oth_U (ld_SlR h.1 _).x ha hb)
theorem swT_R {t : TS} (h : TR t) {a b : Int} (ha : U64 a) (hb : U64 b) : TR (swT t a b) :=
  ⟨mrg_ind (fun _ => h.1) fun _ => mrg_ind (fun _ => h.1) fun _ => swM4_R h ha hb, cnd_ind h.2.1 (cnd_ind h.2.1 (swF4_U h ha hb)), h.2.2⟩
end Go.Sx.M

namespace Go.Sx.M
open Go Go.Sx Go.Proofs Go.RowKit
set_option maxRecDepth 100000
def pre109 (v : V109) : Prop := U64 v.at_ ∧ SlR (Sl.mk v.k v.a v.b v.r v.g v.s v.m 0 0 0) ∧ TR (TS.mk v.M v.f v.c)
theorem n109 (v : V109) (h : pre109 v) : (f109 v).ok ∧ (f109 v).get.1 = .int .i64 (rtE (TS.mk v.M v.f v.c) v.at_ (Sl.mk v.k v.a v.b v.r v.g v.s v.m 0 0 0)) ∧ HOws (f109 v).get.2.1 [HO.cells 175 [.ptr 1 0, .int .u64 ((rtT (TS.mk v.M v.f v.c) v.at_ (Sl.mk v.k v.a v.b v.r v.g v.s v.m 0 0 0)).f), .int .i64 ((rtT (TS.mk v.M v.f v.c) v.at_ (Sl.mk v.k v.a v.b v.r v.g v.s v.m 0 0 0)).c)], HO.res (rtT (TS.mk v.M v.f v.c) v.at_ (Sl.mk v.k v.a v.b v.r v.g v.s v.m 0 0 0)).M] := by
  obtain ⟨a1, a2, a3⟩ := h
  exact ⟨⟨a1, fun _ => ⟨⟨u0, a3.2.1, a1⟩, ⟨a2, i0⟩, a3.1⟩, trivial⟩, rfl, .refl _⟩
noncomputable def f109n (v : V109) : Tr (Fin th.R) := .need (pre109 v) (.leaf (.int .i64 (rtE (TS.mk v.M v.f v.c) v.at_ (Sl.mk v.k v.a v.b v.r v.g v.s v.m 0 0 0)), [.cells 175 [.ptr 1 0, .int .u64 ((rtT (TS.mk v.M v.f v.c) v.at_ (Sl.mk v.k v.a v.b v.r v.g v.s v.m 0 0 0)).f), .int .i64 ((rtT (TS.mk v.M v.f v.c) v.at_ (Sl.mk v.k v.a v.b v.r v.g v.s v.m 0 0 0)).c)], .res (rtT (TS.mk v.M v.f v.c) v.at_ (Sl.mk v.k v.a v.b v.r v.g v.s v.m 0 0 0)).M], [0, 1]))
theorem s109n : Sound Try.prog th 109 (fnC d109 ofV109 f109n) := fnC_refine s109 fun v h => by
  obtain ⟨hp, _⟩ := h
  obtain ⟨a, b, c⟩ := n109 v hp
  exact ⟨a, b.symm, (qdd109 v).symm, c, by show 2 ≤ 2; decide⟩
noncomputable def nice109n : List (Nat × CF th.R) := (109, lift (fnC d109 ofV109 f109n)) :: nice59n
theorem nok109n : NiceOk Try.prog th nice109n := ⟨lift_sound s109n, nok59n⟩
set_option maxRecDepth 100000
def pre56 (v : V56) : Prop := (U64 v.par ∧ U64 v.at_) ∧ SlR (Sl.mk v.k v.a v.b v.r v.g v.s v.m 0 0 0) ∧ TR (TS.mk v.M v.f v.c)
theorem n56 (v : V56) (h : pre56 v) : (f56 v).ok ∧ (f56 v).get.1 = .int .i64 (chE (TS.mk v.M v.f v.c) v.par v.at_ (Sl.mk v.k v.a v.b v.r v.g v.s v.m 0 0 0)) ∧ HOws (f56 v).get.2.1 [HO.cells 175 [.ptr 1 0, .int .u64 ((chT (TS.mk v.M v.f v.c) v.par v.at_ (Sl.mk v.k v.a v.b v.r v.g v.s v.m 0 0 0)).f), .int .i64 ((chT (TS.mk v.M v.f v.c) v.par v.at_ (Sl.mk v.k v.a v.b v.r v.g v.s v.m 0 0 0)).c)], HO.res (chT (TS.mk v.M v.f v.c) v.par v.at_ (Sl.mk v.k v.a v.b v.r v.g v.s v.m 0 0 0)).M] := by
  obtain ⟨⟨a0, a1⟩, a2, a3⟩ := h
  exact ⟨⟨a0, fun _ => a1, fun _ _ _ => ⟨⟨a0, (ld_SlR a3.1 _).x, a1⟩, ⟨a2, wrapI _⟩, a3.1⟩, trivial⟩, rfl, .refl _⟩
noncomputable def f56n (v : V56) : Tr (Fin th.R) := .need (pre56 v) (.leaf (.int .i64 (chE (TS.mk v.M v.f v.c) v.par v.at_ (Sl.mk v.k v.a v.b v.r v.g v.s v.m 0 0 0)), [.cells 175 [.ptr 1 0, .int .u64 ((chT (TS.mk v.M v.f v.c) v.par v.at_ (Sl.mk v.k v.a v.b v.r v.g v.s v.m 0 0 0)).f), .int .i64 ((chT (TS.mk v.M v.f v.c) v.par v.at_ (Sl.mk v.k v.a v.b v.r v.g v.s v.m 0 0 0)).c)], .res (chT (TS.mk v.M v.f v.c) v.par v.at_ (Sl.mk v.k v.a v.b v.r v.g v.s v.m 0 0 0)).M], [0, 1]))
theorem s56n : Sound Try.prog th 56 (fnC d56 ofV56 f56n) := fnC_refine s56 fun v h => by
  obtain ⟨hp, _⟩ := h
  obtain ⟨a, b, c⟩ := n56 v hp
  exact ⟨a, b.symm, (qdd56 v).symm, c, by show 2 ≤ 2; decide⟩
noncomputable def nice56n : List (Nat × CF th.R) := (56, lift (fnC d56 ofV56 f56n)) :: nice109n
theorem nok56n : NiceOk Try.prog th nice56n := ⟨lift_sound s56n, nok109n⟩
set_option maxRecDepth 100000
def pre130 (v : V130) : Prop := U64 v.at_ ∧ SlR (Sl.mk v.k v.a v.b v.r v.g v.s v.m 0 0 0) ∧ TR (TS.mk v.M v.f v.c)
theorem n130 (v : V130) (h : pre130 v) : (f130 v).ok ∧ (f130 v).get.1 = .int .i64 (seE (TS.mk v.M v.f v.c) v.at_ (Sl.mk v.k v.a v.b v.r v.g v.s v.m 0 0 0)) ∧ HOws (f130 v).get.2.1 [HO.cells 175 [.ptr 1 0, .int .u64 (v.f), .int .i64 (v.c)], HO.res (seT (TS.mk v.M v.f v.c) v.at_ (Sl.mk v.k v.a v.b v.r v.g v.s v.m 0 0 0)).M] := by
  obtain ⟨a1, a2, a3⟩ := h
  exact ⟨⟨a1, fun _ _ => ⟨a1, a3.1, a2⟩, trivial⟩, rfl, .refl _⟩
noncomputable def f130n (v : V130) : Tr (Fin th.R) := .need (pre130 v) (.leaf (.int .i64 (seE (TS.mk v.M v.f v.c) v.at_ (Sl.mk v.k v.a v.b v.r v.g v.s v.m 0 0 0)), [.cells 175 [.ptr 1 0, .int .u64 (v.f), .int .i64 (v.c)], .res (seT (TS.mk v.M v.f v.c) v.at_ (Sl.mk v.k v.a v.b v.r v.g v.s v.m 0 0 0)).M], [1]))
theorem s130n : Sound Try.prog th 130 (fnC d130 ofV130 f130n) := fnC_refine s130 fun v h => by
  obtain ⟨hp, _⟩ := h
  obtain ⟨a, b, c⟩ := n130 v hp
  exact ⟨a, b.symm, (qdd130 v).symm, c, by show 2 ≤ 2; decide⟩
noncomputable def nice130n : List (Nat × CF th.R) := (130, lift (fnC d130 ofV130 f130n)) :: nice56n
theorem nok130n : NiceOk Try.prog th nice130n := ⟨lift_sound s130n, nok56n⟩
set_option maxRecDepth 100000
def pre94 (v : V94) : Prop := U64 v.at_
theorem n94 (v : V94) (h : pre94 v) : (f94 v).ok ∧ (f94 v).get.1 = .int .i64 (stE v.M v.at_ sl0) ∧ HOws (f94 v).get.2.1 [HO.res (stM v.M v.at_ sl0)] := by
  exact ⟨⟨⟨h, sl0_R⟩, trivial⟩, rfl, .refl _⟩
noncomputable def f94n (v : V94) : Tr (Fin th.R) := .need (pre94 v) (.leaf (.int .i64 (stE v.M v.at_ sl0), [.res (stM v.M v.at_ sl0)], [0]))
theorem s94n : Sound Try.prog th 94 (fnC d94 ofV94 f94n) := fnC_refine s94 fun v h => by
  obtain ⟨hp, _⟩ := h
  obtain ⟨a, b, c⟩ := n94 v hp
  exact ⟨a, b.symm, (qdd94 v).symm, c, by show 1 ≤ 1; decide⟩
noncomputable def nice94n : List (Nat × CF th.R) := (94, lift (fnC d94 ofV94 f94n)) :: nice130n
theorem nok94n : NiceOk Try.prog th nice94n := ⟨lift_sound s94n, nok130n⟩
set_option maxRecDepth 100000
def pre61 (v : V61) : Prop := (U64 v.a ∧ U64 v.b) ∧ TR (TS.mk v.M v.f v.c)
theorem n61 (v : V61) (h : pre61 v) : (f61 v).ok ∧ (f61 v).get.1 = .int .i64 (mvE (TS.mk v.M v.f v.c) v.a v.b) ∧ HOws (f61 v).get.2.1 [HO.cells 175 [.ptr 1 0, .int .u64 ((mvT (TS.mk v.M v.f v.c) v.a v.b).f), .int .i64 ((mvT (TS.mk v.M v.f v.c) v.a v.b).c)], HO.res (mvT (TS.mk v.M v.f v.c) v.a v.b).M] := by
  obtain ⟨⟨a0, a1⟩, a3⟩ := h
  refine ⟨⟨a0, fun _ => a1, fun _ _ => ⟨a0, sl0_R⟩, fun _ _ => ⟨a1, ld_SlR a3.1 _⟩, fun _ _ => ⟨(ld_SlR a3.1 _).p, a1, mvM_R a3 _ _⟩, fun _ _ => ⟨a1, (ld_SlR a3.1 _).x, tie_MemR (mvM_R a3 _ _) (ld_SlR a3.1 _).p a1⟩, trivial⟩, rfl, ?_⟩
  have e : f61_8 v = v.c := by simp only [f61_8, cnd_same]
  simp only [f61, Tr.get, e]
  exact .refl _
noncomputable def f61n (v : V61) : Tr (Fin th.R) := .need (pre61 v) (.leaf (.int .i64 (mvE (TS.mk v.M v.f v.c) v.a v.b), [.cells 175 [.ptr 1 0, .int .u64 ((mvT (TS.mk v.M v.f v.c) v.a v.b).f), .int .i64 ((mvT (TS.mk v.M v.f v.c) v.a v.b).c)], .res (mvT (TS.mk v.M v.f v.c) v.a v.b).M], [0, 1]))
theorem s61n : Sound Try.prog th 61 (fnC d61 ofV61 f61n) := fnC_refine s61 fun v h => by
  obtain ⟨hp, _⟩ := h
  obtain ⟨a, b, c⟩ := n61 v hp
  exact ⟨a, b.symm, (qdd61 v).symm, c, by show 2 ≤ 2; decide⟩
noncomputable def nice61n : List (Nat × CF th.R) := (61, lift (fnC d61 ofV61 f61n)) :: nice94n
theorem nok61n : NiceOk Try.prog th nice61n := ⟨lift_sound s61n, nok94n⟩
set_option maxRecDepth 100000
def pre131 (v : V131) : Prop := (U64 v.a ∧ U64 v.b) ∧ TR (TS.mk v.M v.f v.c)
theorem n131 (v : V131) (h : pre131 v) : (f131 v).ok ∧ (f131 v).get.1 = .int .i64 (swE (TS.mk v.M v.f v.c) v.a v.b) ∧ HOws (f131 v).get.2.1 [HO.cells 175 [.ptr 1 0, .int .u64 ((swT (TS.mk v.M v.f v.c) v.a v.b).f), .int .i64 ((swT (TS.mk v.M v.f v.c) v.a v.b).c)], HO.res (swT (TS.mk v.M v.f v.c) v.a v.b).M] := by
  obtain ⟨⟨a0, a1⟩, a3⟩ := h
  refine ⟨⟨a0, fun _ => a1, fun _ _ => ⟨a0, ld_SlR a3.1 _⟩, fun _ _ => ⟨a1, ld_SlR a3.1 _⟩, fun _ _ => ⟨oth_U (ld_SlR a3.1 _).p a0 a1, a1, swM0_R a3 a0 a1⟩, fun _ _ => ⟨a1, oth_U (ld_SlR a3.1 _).x a0 a1, swM1_R a3 a0 a1⟩,
    fun _ _ => ⟨oth_U (ld_SlR a3.1 _).p a0 a1, a0, swM2_R a3 a0 a1⟩, fun _ _ => ⟨a0, oth_U (ld_SlR a3.1 _).x a0 a1, swM3_R a3 a0 a1⟩, trivial⟩, rfl, ?_⟩
  have e : f131_10 v = v.c := by simp only [f131_10, cnd_same]
  simp only [f131, Tr.get, e]
  exact .refl _
noncomputable def f131n (v : V131) : Tr (Fin th.R) := .need (pre131 v) (.leaf (.int .i64 (swE (TS.mk v.M v.f v.c) v.a v.b), [.cells 175 [.ptr 1 0, .int .u64 ((swT (TS.mk v.M v.f v.c) v.a v.b).f), .int .i64 ((swT (TS.mk v.M v.f v.c) v.a v.b).c)], .res (swT (TS.mk v.M v.f v.c) v.a v.b).M], [0, 1]))
theorem s131n : Sound Try.prog th 131 (fnC d131 ofV131 f131n) := fnC_refine s131 fun v h => by
  obtain ⟨hp, _⟩ := h
  obtain ⟨a, b, c⟩ := n131 v hp
  exact ⟨a, b.symm, (qdd131 v).symm, c, by show 2 ≤ 2; decide⟩
noncomputable def nice131n : List (Nat × CF th.R) := (131, lift (fnC d131 ofV131 f131n)) :: nice61n
theorem nok131n : NiceOk Try.prog th nice131n := ⟨lift_sound s131n, nok61n⟩
set_option maxRecDepth 100000
noncomputable def nice60n : List (Nat × CF th.R) := nice131n
theorem nok60n : NiceOk Try.prog th nice60n := nok131n
set_option maxRecDepth 100000
structure V58 where
  at_ : Int
  f : Int
  c : Int
  M : th.R
def A58 (v : V58) : List SV := [.ptr 0 0, .int .u64 v.at_]
def H58 (v : V58) : List (HO th.R) := [.cells 175 [.ptr 1 0, .int .u64 v.f, .int .i64 v.c], .res v.M]
def toV58 (v : V58) : List (Vl th.R) := [.i v.at_, .i v.f, .i v.c, .r v.M]
def ofV58 : List (Vl th.R) → Option V58
  | [.i at_, .i f, .i c, .r M] => some ⟨at_, f, c, M⟩
  | _ => none
def d58 : Ft := ⟨[.ptr 0 0, .int .u64], [.cells 175 [.ptr 1 0, .int .u64, .int .i64], .res]⟩
structure P58_0 where
  xh0_1 : Int
  xh0_2 : Int
  R1 : th.R
  xh2_0 : Int
  xh2_1 : Int
  xh2_2 : Int
  xh2_3 : Int
  xh2_4 : Int
  xh2_5 : Int
  xh2_6 : Int
  xh2_7 : Int
  xh2_8 : Int
  xh2_9 : Int
structure S58_0 where
  n7 : Nat
  x8 : Int
  N3 : Nat
  F3_0 : Nat → Int
noncomputable instance : Inhabited S58_0 := ⟨⟨0, 0, 0, fun _ => 0⟩⟩
def I58_0 (p : P58_0) (s : S58_0) : St th.R := ⟨[some (.ptr 0 0), none, none, none, none, some (.ptr 2 0), none, some (.slc 3 1 0 s.n7), some (.int .u64 s.x8), none, none, none, none, none, none, none, none, none, none, none, none, none, none, none, none, none, none, none, none, none, none, none, none, none, none, none, none, none, none, none, none, none, none, none, none, none, none, none, none, none, none, none, none, none], [.cells 175 [.ptr 1 0, .int .u64 p.xh0_1, .int .i64 p.xh0_2], .res p.R1, .cells 40 [.int .i64 p.xh2_0, .int .u64 p.xh2_1, .int .i64 p.xh2_2, .int .i64 p.xh2_3, .int .i64 p.xh2_4, .int .i64 p.xh2_5, .int .u64 p.xh2_6, .int .u64 p.xh2_7, .int .u64 p.xh2_8, .int .i64 p.xh2_9], .row 22 1 s.N3 (fun j => [.int .u64 (s.F3_0 j)])], [], []⟩
def d58_0 : Lp := ⟨⟨54, [(0, .ptr 0 0), (5, .ptr 2 0), (7, .slc0 3 1), (8, .int .u64)], [.cells 175 [.ptr 1 0, .int .u64, .int .i64], .res, .cells 40 [.int .i64, .int .u64, .int .i64, .int .i64, .int .i64, .int .i64, .int .u64, .int .u64, .int .u64, .int .i64], .rowc 22 [.int .u64]]⟩, [⟨7, 22, 1⟩], 3, [], [7], []⟩
def toV58_0 (p : P58_0) (s : S58_0) : List (Vl th.R) := [.n s.n7, .i s.x8, .i p.xh0_1, .i p.xh0_2, .r p.R1, .i p.xh2_0, .i p.xh2_1, .i p.xh2_2, .i p.xh2_3, .i p.xh2_4, .i p.xh2_5, .i p.xh2_6, .i p.xh2_7, .i p.xh2_8, .i p.xh2_9, .n s.N3, .c s.F3_0]
def ofV58_0 : List (Vl th.R) → Option (P58_0 × S58_0)
  | [.n n7, .i x8, .i xh0_1, .i xh0_2, .r R1, .i xh2_0, .i xh2_1, .i xh2_2, .i xh2_3, .i xh2_4, .i xh2_5, .i xh2_6, .i xh2_7, .i xh2_8, .i xh2_9, .n N3, .c F3_0] => some (⟨xh0_1, xh0_2, R1, xh2_0, xh2_1, xh2_2, xh2_3, xh2_4, xh2_5, xh2_6, xh2_7, xh2_8, xh2_9⟩, ⟨n7, x8, N3, F3_0⟩)
  | _ => none
noncomputable def e58_0_9 (p : P58_0) (s : S58_0) : (Nat) := s.n7 + (1:Nat)
noncomputable def e58_0_0 (p : P58_0) (s : S58_0) : (Bool) := cnd (s.x8 != (0:Int)) false true
noncomputable def e58_0_1 (p : P58_0) (s : S58_0) : (Prop) := ∀ (i:Nat), scpL (0:Nat) ((fun (j:Nat) => [SV.int IntKind.u64 (s.F3_0 j)]) i) = true
noncomputable def e58_0_2 (p : P58_0) (s : S58_0) : (Prop) := pre132 (V132.mk s.x8 p.xh0_1 p.xh0_2 p.R1)
noncomputable def e58_0_3 (p : P58_0) (s : S58_0) : (Bool) := cnd (cnd (hdE p.R1 s.x8 != (0:Int)) true (decide ((ld p.R1 s.x8).d ≤ p.xh2_9))) true (decide ((↑s.n7:Int) > p.xh0_2))
noncomputable def e58_0_4 (p : P58_0) (s : S58_0) : (Prop) := (0:Nat) = (0:Nat) ∧ s.n7 ≤ s.N3 ∧ (1:Nat) ≤ (1:Nat) ∧ e58_0_9 p s * (4096:Nat) ≤ (140737488355328:Nat) ∧ e58_0_9 p s ≤ (9223372036854775807:Nat)
noncomputable def e58_0_5 (p : P58_0) (s : S58_0) : (Prop) := (∀ (i:Nat), scpL (0:Nat) ((fun (i:Nat) => rowSet (i.blt s.n7) ((fun (j:Nat) => [SV.int IntKind.u64 (s.F3_0 j)]) i) (rowEl (1:Nat) (1:Nat) (setMany (List.map (fun (i:Nat) => [SV.int IntKind.u64 (0:Int)].getD (i % (1:Nat)) Inhabited.default) (List.range (1:Nat))) (0:Nat) (SV.int IntKind.u64 s.x8).cells) ((0:Nat) + (i - s.n7)))) i) = true) ∧ ∀ (i:Nat), i < e58_0_9 p s → (fun (i:Nat) => rowSet (i.blt s.n7) ((fun (j:Nat) => [SV.int IntKind.u64 (s.F3_0 j)]) i) (rowEl (1:Nat) (1:Nat) (setMany (List.map (fun (i:Nat) => [SV.int IntKind.u64 (0:Int)].getD (i % (1:Nat)) Inhabited.default) (List.range (1:Nat))) (0:Nat) (SV.int IntKind.u64 s.x8).cells) ((0:Nat) + (i - s.n7)))) i = elC (fun (i:Nat) => rowSet (i.blt s.n7) ((fun (j:Nat) => [SV.int IntKind.u64 (s.F3_0 j)]) i) (rowEl (1:Nat) (1:Nat) (setMany (List.map (fun (i:Nat) => [SV.int IntKind.u64 (0:Int)].getD (i % (1:Nat)) Inhabited.default) (List.range (1:Nat))) (0:Nat) (SV.int IntKind.u64 s.x8).cells) ((0:Nat) + (i - s.n7)))) (0:Nat) [Ck.int IntKind.u64] i
noncomputable def e58_0_6 (p : P58_0) (s : S58_0) : (Nat) := e58_0_9 p s
noncomputable def e58_0_7 (p : P58_0) (s : S58_0) : (Int) := (ld p.R1 s.x8).x
noncomputable def e58_0_8 (p : P58_0) (s : S58_0) : Nat → (Int) := fun (j:Nat) => cnd (j.blt s.n7) (s.F3_0 j) s.x8
theorem n_e58_0_1 (p : P58_0) (s : S58_0) : e58_0_1 p s := by
  unfold e58_0_1
  (repeat' first | intro _ | apply And.intro) <;> first | rfl | exact absurd (by assumption) (Nat.not_lt_zero _) | exact scpL_rowSet (by rfl) (by rfl) | exact scpL_rowEl (by kernel_rfl) _ | omega | decide
theorem n_e58_0_5 (p : P58_0) (s : S58_0) : e58_0_5 p s := by
  unfold e58_0_5
  (repeat' first | intro _ | apply And.intro) <;> first | rfl | exact absurd (by assumption) (Nat.not_lt_zero _) | exact scpL_rowSet (by rfl) (by rfl) | exact scpL_rowEl (by kernel_rfl) _ | omega | decide
noncomputable def rf58_0 (p : P58_0) (s : S58_0) : Tr (Rs th.R S58_0) := (Tr.ite (e58_0_0 p s) (Tr.need (e58_0_1 p s) (Tr.leaf (Rs.out (Ex.exit (0:Nat)) [none, none, none, none, none, none, none, (some (SV.slc (3) (1:Nat) (0:Nat) (s.n7))), none, none, none, none, none, none, none, none, none, none, none, none, none, none, none, none, none, none, none, none, none, none, none, none, none, none, none, none, none, none, none, none, none, none, none, none, none, none, none, none, none, none, none, none, none, none] [(HO.cells (175:Nat) [(SV.ptr (1:Nat) (0:Nat)), SV.int .u64 (p.xh0_1), SV.int .i64 (p.xh0_2)]), HO.res (p.R1), (HO.cells (40:Nat) [SV.int .i64 (p.xh2_0), SV.int .u64 (p.xh2_1), SV.int .i64 (p.xh2_2), SV.int .i64 (p.xh2_3), SV.int .i64 (p.xh2_4), SV.int .i64 (p.xh2_5), SV.int .u64 (p.xh2_6), SV.int .u64 (p.xh2_7), SV.int .u64 (p.xh2_8), SV.int .i64 (p.xh2_9)]), (HO.row (22:Nat) (1:Nat) (s.N3) (fun j => [SV.int .u64 (s.F3_0 j)]))]))) (Tr.need (e58_0_2 p s) (Tr.ite (e58_0_3 p s) (Tr.need (e58_0_1 p s) (Tr.leaf (Rs.out (Ex.exit (0:Nat)) [none, none, none, none, none, none, none, (some (SV.slc (3) (1:Nat) (0:Nat) (s.n7))), none, none, none, none, none, none, none, none, none, none, none, none, none, none, none, none, none, none, none, none, none, none, none, none, none, none, none, none, none, none, none, none, none, none, none, none, none, none, none, none, none, none, none, none, none, none] [(HO.cells (175:Nat) [(SV.ptr (1:Nat) (0:Nat)), SV.int .u64 (p.xh0_1), SV.int .i64 (p.xh0_2)]), HO.res (p.R1), (HO.cells (40:Nat) [SV.int .i64 (p.xh2_0), SV.int .u64 (p.xh2_1), SV.int .i64 (p.xh2_2), SV.int .i64 (p.xh2_3), SV.int .i64 (p.xh2_4), SV.int .i64 (p.xh2_5), SV.int .u64 (p.xh2_6), SV.int .u64 (p.xh2_7), SV.int .u64 (p.xh2_8), SV.int .i64 (p.xh2_9)]), (HO.row (22:Nat) (1:Nat) (s.N3) (fun j => [SV.int .u64 (s.F3_0 j)]))]))) (Tr.need (e58_0_4 p s) (Tr.need (e58_0_5 p s) (Tr.leaf (Rs.on (S58_0.mk ((e58_0_6 p s)) ((e58_0_7 p s)) ((e58_0_6 p s)) ((fun j => (e58_0_8 p s j)))))))))))
noncomputable def r58_0 (p : P58_0) (s : S58_0) : Tr (Rs th.R S58_0) := (Tr.ite (e58_0_0 p s) (Tr.leaf (Rs.out (Ex.exit (0:Nat)) [none, none, none, none, none, none, none, (some (SV.slc (3) (1:Nat) (0:Nat) (s.n7))), none, none, none, none, none, none, none, none, none, none, none, none, none, none, none, none, none, none, none, none, none, none, none, none, none, none, none, none, none, none, none, none, none, none, none, none, none, none, none, none, none, none, none, none, none, none] [(HO.cells (175:Nat) [(SV.ptr (1:Nat) (0:Nat)), SV.int .u64 (p.xh0_1), SV.int .i64 (p.xh0_2)]), HO.res (p.R1), (HO.cells (40:Nat) [SV.int .i64 (p.xh2_0), SV.int .u64 (p.xh2_1), SV.int .i64 (p.xh2_2), SV.int .i64 (p.xh2_3), SV.int .i64 (p.xh2_4), SV.int .i64 (p.xh2_5), SV.int .u64 (p.xh2_6), SV.int .u64 (p.xh2_7), SV.int .u64 (p.xh2_8), SV.int .i64 (p.xh2_9)]), (HO.row (22:Nat) (1:Nat) (s.N3) (fun j => [SV.int .u64 (s.F3_0 j)]))])) (Tr.need (e58_0_2 p s) (Tr.ite (e58_0_3 p s) (Tr.leaf (Rs.out (Ex.exit (0:Nat)) [none, none, none, none, none, none, none, (some (SV.slc (3) (1:Nat) (0:Nat) (s.n7))), none, none, none, none, none, none, none, none, none, none, none, none, none, none, none, none, none, none, none, none, none, none, none, none, none, none, none, none, none, none, none, none, none, none, none, none, none, none, none, none, none, none, none, none, none, none] [(HO.cells (175:Nat) [(SV.ptr (1:Nat) (0:Nat)), SV.int .u64 (p.xh0_1), SV.int .i64 (p.xh0_2)]), HO.res (p.R1), (HO.cells (40:Nat) [SV.int .i64 (p.xh2_0), SV.int .u64 (p.xh2_1), SV.int .i64 (p.xh2_2), SV.int .i64 (p.xh2_3), SV.int .i64 (p.xh2_4), SV.int .i64 (p.xh2_5), SV.int .u64 (p.xh2_6), SV.int .u64 (p.xh2_7), SV.int .u64 (p.xh2_8), SV.int .i64 (p.xh2_9)]), (HO.row (22:Nat) (1:Nat) (s.N3) (fun j => [SV.int .u64 (s.F3_0 j)]))])) (Tr.need (e58_0_4 p s) (Tr.leaf (Rs.on (S58_0.mk ((e58_0_6 p s)) ((e58_0_7 p s)) ((e58_0_6 p s)) ((fun j => (e58_0_8 p s j))))))))))
noncomputable def E58_0 : St th.R → Out th := evCode th Try.prog (auto th Try.prog nice60n [] 20) (autoH [] [] [] [4, 7, 53] : Hints th) (lpAt Try.prog 58 0)
theorem B58_0 : CodeSound th Try.prog (lpAt Try.prog 58 0) E58_0 := evCode_sound (T := th) (P := Try.prog) (tbl := (auto th Try.prog nice60n [] 20)) (auto_sound (nice := nice60n) (us := []) nok60n 20) (autoH [] [] [] [4, 7, 53] : Hints th) _ (LoopsOk_mem (fun _ => rfl) _ fun b hb L hL => by cases hL)
noncomputable def L58_0 : St th.R → Out th := loopL d58_0 ofV58_0 r58_0
theorem h1_58_0 (p : P58_0) (s : S58_0) : bld d58_0.tm (toV58_0 p s) = some (I58_0 p s) := by kernel_rfl
theorem h2_58_0 (l : List (Vl th.R)) (p : P58_0) (s : S58_0) (h : ofV58_0 l = some (p, s)) : l = toV58_0 p s := by
  unfold ofV58_0 at h
  split at h
  · cases h; rfl
  · cases h
theorem h3_58_0 (p : P58_0) (s : S58_0) : cvE d58_0 (E58_0 (I58_0 p s)) = some ((rf58_0 p s).map (Rs.map (toV58_0 p))) := by kernel_rfl
theorem h3g_58_0 (p : P58_0) (s : S58_0) : (rf58_0 p s).get = (r58_0 p s).get := by kernel_rfl
theorem h4_58_0 (p : P58_0) (s s1 : S58_0) : outH d58_0.dirt d58_0.n0 (r58_0 p s) = repH (maskH d58_0.dirt 0 d58_0.n0 (I58_0 p s1).heap) (r58_0 p s) := by kernel_rfl
theorem ls58_0 : CodeSound th Try.prog (.loop (lpAt Try.prog 58 0)) L58_0 := loopL_sound B58_0 d58_0 I58_0 toV58_0 (by kernel_rfl) h1_58_0 h2_58_0
  (fun p s => ⟨(rf58_0 p s).map (Rs.map (toV58_0 p)), h3_58_0 p s, fun h => by
    rw [Tr.map_ok]
    unfold r58_0 at h; unfold rf58_0
    simp only [Tr.ok, n_e58_0_1, n_e58_0_5, true_and, and_true, forall_const, implies_true] at h ⊢
    try exact h, by rw [Tr.map_get, h3g_58_0 p s]⟩) h4_58_0
theorem ok58 : LoopsOk th Try.prog (autoH [(6, L58_0)] [] [] [4, 7, 53] : Hints th) (bodyOf Try.prog 58) := autoH_ok (bs := [lpAt Try.prog 58 0]) (by kernel_rfl) fun b hb L hL => by
  simp only [List.mem_cons, List.not_mem_nil, or_false] at hb
  rcases hb with rfl
  · have e : lookL [(6, L58_0)] (firstReg (lpAt Try.prog 58 0)) = some L58_0 := by kernel_rfl
    rw [e] at hL; cases hL
    exact ls58_0
noncomputable def f58_10 (v : V58) : (Bool) := hdE v.M v.at_ != (0:Int)
noncomputable def f58_11 (v : V58) : (P58_0) := P58_0.mk v.f v.c v.M (ld v.M v.at_).k (ld v.M v.at_).a (ld v.M v.at_).b (ld v.M v.at_).r (ld v.M v.at_).g (ld v.M v.at_).s (ld v.M v.at_).m (ld v.M v.at_).x (ld v.M v.at_).p (ld v.M v.at_).d
noncomputable def f58_12 (v : V58) : (S58_0) := S58_0.mk (0:Nat) (ld v.M v.at_).x (0:Nat) (colI (fun (j:Nat) => []) (0:Nat))
noncomputable def f58_13 (v : V58) : (S58_0) := lastS (r58_0 (f58_11 v)) (f58_12 v)
noncomputable def f58_14 (v : V58) : (Bool) := e58_0_0 (f58_11 v) (f58_13 v)
noncomputable def f58_15 (v : V58) : (Nat) := (f58_13 v).n7
noncomputable def f58_16 (v : V58) : (Nat) := (f58_13 v).N3
noncomputable def f58_0 (v : V58) : (Prop) := pre132 (V132.mk v.at_ v.f v.c v.M)
noncomputable def f58_1 (v : V58) : (Prop) := f58_10 v = false → ∀ (i:Nat), i < (0:Nat) → (fun (j:Nat) => []) i = elC (fun (j:Nat) => []) (0:Nat) [Ck.int IntKind.u64] i
noncomputable def f58_2 (v : V58) : (Prop) := f58_10 v = false → LT (r58_0 (f58_11 v)) (f58_12 v)
noncomputable def f58_3 (v : V58) : (Bool) := f58_10 v
noncomputable def f58_4 (v : V58) : (Prop) := ∀ (i:Nat), scpL (0:Nat) ((fun (j:Nat) => []) i) = true
noncomputable def f58_5 (v : V58) : (Prop) := ∀ (i:Nat), scpL (0:Nat) ((fun (i:Nat) => rowSet (f58_14 v) ((fun (j:Nat) => [SV.int IntKind.u64 ((f58_13 v).F3_0 j)]) i) ((fun (j:Nat) => [SV.int IntKind.u64 ((f58_13 v).F3_0 j)]) i)) i) = true
noncomputable def f58_6 (v : V58) : (Nat) := cnd (f58_14 v) (0:Nat) (0:Nat)
noncomputable def f58_7 (v : V58) : (Nat) := cnd (f58_14 v) (f58_15 v) (f58_15 v)
noncomputable def f58_8 (v : V58) : (Nat) := cnd (f58_14 v) (f58_16 v) (f58_16 v)
noncomputable def f58_9 (v : V58) : Nat → (Int) := fun (i:Nat) => cnd (f58_14 v) ((f58_13 v).F3_0 i) ((f58_13 v).F3_0 i)
theorem n_f58_1 (v : V58) : f58_1 v := by
  unfold f58_1
  (repeat' first | intro _ | apply And.intro) <;> first | rfl | exact absurd (by assumption) (Nat.not_lt_zero _) | exact scpL_rowSet (by rfl) (by rfl) | exact scpL_rowEl (by kernel_rfl) _ | omega | decide
theorem n_f58_4 (v : V58) : f58_4 v := by
  unfold f58_4
  (repeat' first | intro _ | apply And.intro) <;> first | rfl | exact absurd (by assumption) (Nat.not_lt_zero _) | exact scpL_rowSet (by rfl) (by rfl) | exact scpL_rowEl (by kernel_rfl) _ | omega | decide
theorem n_f58_5 (v : V58) : f58_5 v := by
  unfold f58_5
  (repeat' first | intro _ | apply And.intro) <;> first | rfl | exact absurd (by assumption) (Nat.not_lt_zero _) | exact scpL_rowSet (by rfl) (by rfl) | exact scpL_rowEl (by kernel_rfl) _ | omega | decide
noncomputable def ff58 (v : V58) : Tr (Fin th.R) := (Tr.need (f58_0 v) (Tr.need (f58_1 v) (Tr.need (f58_2 v) (Tr.ite (f58_3 v) (Tr.need (f58_4 v) (Tr.leaf ((SV.slc (2) (1:Nat) (0:Nat) (0:Nat)), [(HO.cells (175:Nat) [(SV.ptr (1:Nat) (0:Nat)), SV.int .u64 (v.f), SV.int .i64 (v.c)]), HO.res (v.M), (HO.row (22:Nat) (1:Nat) (0:Nat) (fun u => []))], [nat_lit 1, nat_lit 0]))) (Tr.need (f58_5 v) (Tr.leaf ((SV.slc (2) (1:Nat) (f58_6 v) (f58_7 v)), [(HO.cells (175:Nat) [(SV.ptr (1:Nat) (0:Nat)), SV.int .u64 (v.f), SV.int .i64 (v.c)]), HO.res (v.M), (HO.row (22:Nat) (1:Nat) (f58_8 v) (fun i => [SV.int .u64 (f58_9 v i)]))], [nat_lit 1, nat_lit 0, 2])))))))
noncomputable def f58 (v : V58) : Tr (Fin th.R) := (Tr.need (f58_0 v) (Tr.need (f58_2 v) (Tr.ite (f58_3 v) (Tr.leaf ((SV.slc (2) (1:Nat) (0:Nat) (0:Nat)), [(HO.cells (175:Nat) [(SV.ptr (1:Nat) (0:Nat)), SV.int .u64 (v.f), SV.int .i64 (v.c)]), HO.res (v.M), (HO.row (22:Nat) (1:Nat) (0:Nat) (fun u => []))], [0, 1])) (Tr.leaf ((SV.slc (2) (1:Nat) (f58_6 v) (f58_7 v)), [(HO.cells (175:Nat) [(SV.ptr (1:Nat) (0:Nat)), SV.int .u64 (v.f), SV.int .i64 (v.c)]), HO.res (v.M), (HO.row (22:Nat) (1:Nat) (f58_8 v) (fun i => [SV.int .u64 (f58_9 v i)]))], [0, 1])))))
noncomputable def C58 : CF th.R := fnC d58 ofV58 (f58 )
theorem q58 (v : V58) : (normC (nilC 22 1 (evFn th Try.prog (auto th Try.prog nice60n [] 20) (autoH [(6, L58_0)] [] [] [4, 7, 53] : Hints th) 58))) (A58 v) (H58 v) = some (ff58 v) := by kernel_rfl
theorem qg58 (v : V58) : ((ff58 v).map (setD [0, 1])).get = (f58 v).get := by kernel_rfl
theorem qd58 (v : V58) : allD 2 [0, 1] (ff58 v) = true := by kernel_rfl
theorem s58 : Sound Try.prog th 58 (C58 ) := fnC_sound (normC_sound (nilC_sound (evFn_sound' (T := th) (P := Try.prog) (tbl := (auto th Try.prog nice60n [] 20)) (auto_sound (nice := nice60n) (us := []) nok60n 20) (H := (autoH [(6, L58_0)] [] [] [4, 7, 53] : Hints th)) (k := 58) (fnLoops ok58)))) d58 A58 H58 toV58 (by kernel_rfl) (fun v => by kernel_rfl)
  (fun l v h => by
    unfold ofV58 at h
    split at h
    · cases h; rfl
    · cases h)
  [0, 1] (fun v => ⟨ff58 v, q58 v, fun h => by
    unfold f58 at h; unfold ff58
    simp only [Tr.ok, n_f58_1, n_f58_4, n_f58_5, true_and, and_true, forall_const, implies_true] at h ⊢
    try exact h, qg58 v, qd58 v⟩)
theorem qdd58 (v : V58) : (f58 v).get.2.2 = [0, 1] := by
  rw [← qg58, Tr.map_get]; rfl
set_option maxRecDepth 100000
structure V75 where
  f : Int
  c : Int
  M : th.R
def A75 (v : V75) : List SV := [.ptr 0 0]
def H75 (v : V75) : List (HO th.R) := [.cells 175 [.ptr 1 0, .int .u64 v.f, .int .i64 v.c], .res v.M]
def toV75 (v : V75) : List (Vl th.R) := [.i v.f, .i v.c, .r v.M]
def ofV75 : List (Vl th.R) → Option V75
  | [.i f, .i c, .r M] => some ⟨f, c, M⟩
  | _ => none
def d75 : Ft := ⟨[.ptr 0 0], [.cells 175 [.ptr 1 0, .int .u64, .int .i64], .res]⟩
structure P75_0 where
  xh0_1 : Int
  xh0_2 : Int
  R1 : th.R
structure S75_0 where
  n3 : Nat
  x4 : Int
  N2 : Nat
  F2_0 : Nat → Int
instance : Inhabited S75_0 := ⟨⟨0, 0, 0, fun _ => 0⟩⟩
def I75_0 (p : P75_0) (s : S75_0) : St th.R := ⟨[some (.ptr 0 0), none, none, some (.slc 2 1 0 s.n3), some (.int .u64 s.x4), none, none, none, none, none, none, none, none, none, none, none, none, none, none, none, none, none, none, none, none, none, none, none, none, none, none, none, none, none, none, none, none, none], [.cells 175 [.ptr 1 0, .int .u64 p.xh0_1, .int .i64 p.xh0_2], .res p.R1, .row 22 1 s.N2 (fun j => [.int .u64 (s.F2_0 j)])], [], []⟩
def d75_0 : Lp := ⟨⟨38, [(0, .ptr 0 0), (3, .slc0 2 1), (4, .int .u64)], [.cells 175 [.ptr 1 0, .int .u64, .int .i64], .res, .rowc 22 [.int .u64]]⟩, [⟨3, 22, 1⟩], 2, [], [3], []⟩
def toV75_0 (p : P75_0) (s : S75_0) : List (Vl th.R) := [.n s.n3, .i s.x4, .i p.xh0_1, .i p.xh0_2, .r p.R1, .n s.N2, .c s.F2_0]
def ofV75_0 : List (Vl th.R) → Option (P75_0 × S75_0)
  | [.n n3, .i x4, .i xh0_1, .i xh0_2, .r R1, .n N2, .c F2_0] => some (⟨xh0_1, xh0_2, R1⟩, ⟨n3, x4, N2, F2_0⟩)
  | _ => none
noncomputable def e75_0_8 (p : P75_0) (s : S75_0) : (Nat) := s.n3 + (1:Nat)
noncomputable def e75_0_0 (p : P75_0) (s : S75_0) : (Bool) := cnd (cnd (s.x4 != (0:Int)) (decide ((↑s.n3:Int) < p.xh0_2)) false) false true
noncomputable def e75_0_1 (p : P75_0) (s : S75_0) : (Prop) := ∀ (i:Nat), scpL (0:Nat) ((fun (j:Nat) => [SV.int IntKind.u64 (s.F2_0 j)]) i) = true
noncomputable def e75_0_2 (p : P75_0) (s : S75_0) : (Prop) := (0:Nat) = (0:Nat) ∧ s.n3 ≤ s.N2 ∧ (1:Nat) ≤ (1:Nat) ∧ e75_0_8 p s * (4096:Nat) ≤ (140737488355328:Nat) ∧ e75_0_8 p s ≤ (9223372036854775807:Nat)
noncomputable def e75_0_3 (p : P75_0) (s : S75_0) : (Prop) := pre29 (V29.mk s.x4 p.R1)
noncomputable def e75_0_4 (p : P75_0) (s : S75_0) : (Prop) := (∀ (i:Nat), scpL (0:Nat) ((fun (i:Nat) => rowSet (i.blt s.n3) ((fun (j:Nat) => [SV.int IntKind.u64 (s.F2_0 j)]) i) (rowEl (1:Nat) (1:Nat) (setMany (List.map (fun (i:Nat) => [SV.int IntKind.u64 (0:Int)].getD (i % (1:Nat)) Inhabited.default) (List.range (1:Nat))) (0:Nat) (SV.int IntKind.u64 s.x4).cells) ((0:Nat) + (i - s.n3)))) i) = true) ∧ ∀ (i:Nat), i < e75_0_8 p s → (fun (i:Nat) => rowSet (i.blt s.n3) ((fun (j:Nat) => [SV.int IntKind.u64 (s.F2_0 j)]) i) (rowEl (1:Nat) (1:Nat) (setMany (List.map (fun (i:Nat) => [SV.int IntKind.u64 (0:Int)].getD (i % (1:Nat)) Inhabited.default) (List.range (1:Nat))) (0:Nat) (SV.int IntKind.u64 s.x4).cells) ((0:Nat) + (i - s.n3)))) i = elC (fun (i:Nat) => rowSet (i.blt s.n3) ((fun (j:Nat) => [SV.int IntKind.u64 (s.F2_0 j)]) i) (rowEl (1:Nat) (1:Nat) (setMany (List.map (fun (i:Nat) => [SV.int IntKind.u64 (0:Int)].getD (i % (1:Nat)) Inhabited.default) (List.range (1:Nat))) (0:Nat) (SV.int IntKind.u64 s.x4).cells) ((0:Nat) + (i - s.n3)))) (0:Nat) [Ck.int IntKind.u64] i
noncomputable def e75_0_5 (p : P75_0) (s : S75_0) : (Nat) := e75_0_8 p s
noncomputable def e75_0_6 (p : P75_0) (s : S75_0) : (Int) := (ld p.R1 s.x4).x
noncomputable def e75_0_7 (p : P75_0) (s : S75_0) : Nat → (Int) := fun (j:Nat) => cnd (j.blt s.n3) (s.F2_0 j) s.x4
theorem n_e75_0_1 (p : P75_0) (s : S75_0) : e75_0_1 p s := by
  unfold e75_0_1
  (repeat' first | intro _ | apply And.intro) <;> first | rfl | exact absurd (by assumption) (Nat.not_lt_zero _) | exact scpL_rowSet (by rfl) (by rfl) | exact scpL_rowEl (by kernel_rfl) _ | omega | decide
theorem n_e75_0_4 (p : P75_0) (s : S75_0) : e75_0_4 p s := by
  unfold e75_0_4
  (repeat' first | intro _ | apply And.intro) <;> first | rfl | exact absurd (by assumption) (Nat.not_lt_zero _) | exact scpL_rowSet (by rfl) (by rfl) | exact scpL_rowEl (by kernel_rfl) _ | omega | decide
noncomputable def rf75_0 (p : P75_0) (s : S75_0) : Tr (Rs th.R S75_0) := (Tr.ite (e75_0_0 p s) (Tr.need (e75_0_1 p s) (Tr.leaf (Rs.out (Ex.exit (0:Nat)) [none, none, none, (some (SV.slc (2) (1:Nat) (0:Nat) (s.n3))), none, none, none, none, none, none, none, none, none, none, none, none, none, none, none, none, none, none, none, none, none, none, none, none, none, none, none, none, none, none, none, none, none, none] [(HO.cells (175:Nat) [(SV.ptr (1:Nat) (0:Nat)), SV.int .u64 (p.xh0_1), SV.int .i64 (p.xh0_2)]), HO.res (p.R1), (HO.row (22:Nat) (1:Nat) (s.N2) (fun j => [SV.int .u64 (s.F2_0 j)]))]))) (Tr.need (e75_0_2 p s) (Tr.need (e75_0_3 p s) (Tr.need (e75_0_4 p s) (Tr.leaf (Rs.on (S75_0.mk ((e75_0_5 p s)) ((e75_0_6 p s)) ((e75_0_5 p s)) ((fun j => (e75_0_7 p s j))))))))))
noncomputable def r75_0 (p : P75_0) (s : S75_0) : Tr (Rs th.R S75_0) := (Tr.ite (e75_0_0 p s) (Tr.leaf (Rs.out (Ex.exit (0:Nat)) [none, none, none, (some (SV.slc (2) (1:Nat) (0:Nat) (s.n3))), none, none, none, none, none, none, none, none, none, none, none, none, none, none, none, none, none, none, none, none, none, none, none, none, none, none, none, none, none, none, none, none, none, none] [(HO.cells (175:Nat) [(SV.ptr (1:Nat) (0:Nat)), SV.int .u64 (p.xh0_1), SV.int .i64 (p.xh0_2)]), HO.res (p.R1), (HO.row (22:Nat) (1:Nat) (s.N2) (fun j => [SV.int .u64 (s.F2_0 j)]))])) (Tr.need (e75_0_2 p s) (Tr.need (e75_0_3 p s) (Tr.leaf (Rs.on (S75_0.mk ((e75_0_5 p s)) ((e75_0_6 p s)) ((e75_0_5 p s)) ((fun j => (e75_0_7 p s j)))))))))
noncomputable def E75_0 : St th.R → Out th := evCode th Try.prog (auto th Try.prog nice60n [] 20) (autoH [] [] [] [2, 3, 37] : Hints th) (lpAt Try.prog 75 0)
theorem B75_0 : CodeSound th Try.prog (lpAt Try.prog 75 0) E75_0 := evCode_sound (T := th) (P := Try.prog) (tbl := (auto th Try.prog nice60n [] 20)) (auto_sound (nice := nice60n) (us := []) nok60n 20) (autoH [] [] [] [2, 3, 37] : Hints th) _ (LoopsOk_mem (fun _ => rfl) _ fun b hb L hL => by cases hL)
noncomputable def L75_0 : St th.R → Out th := loopL d75_0 ofV75_0 r75_0
theorem h1_75_0 (p : P75_0) (s : S75_0) : bld d75_0.tm (toV75_0 p s) = some (I75_0 p s) := by kernel_rfl
theorem h2_75_0 (l : List (Vl th.R)) (p : P75_0) (s : S75_0) (h : ofV75_0 l = some (p, s)) : l = toV75_0 p s := by
  unfold ofV75_0 at h
  split at h
  · cases h; rfl
  · cases h
theorem h3_75_0 (p : P75_0) (s : S75_0) : cvE d75_0 (E75_0 (I75_0 p s)) = some ((rf75_0 p s).map (Rs.map (toV75_0 p))) := by kernel_rfl
theorem h3g_75_0 (p : P75_0) (s : S75_0) : (rf75_0 p s).get = (r75_0 p s).get := by kernel_rfl
theorem h4_75_0 (p : P75_0) (s s1 : S75_0) : outH d75_0.dirt d75_0.n0 (r75_0 p s) = repH (maskH d75_0.dirt 0 d75_0.n0 (I75_0 p s1).heap) (r75_0 p s) := by kernel_rfl
theorem ls75_0 : CodeSound th Try.prog (.loop (lpAt Try.prog 75 0)) L75_0 := loopL_sound B75_0 d75_0 I75_0 toV75_0 (by kernel_rfl) h1_75_0 h2_75_0
  (fun p s => ⟨(rf75_0 p s).map (Rs.map (toV75_0 p)), h3_75_0 p s, fun h => by
    rw [Tr.map_ok]
    unfold r75_0 at h; unfold rf75_0
    simp only [Tr.ok, n_e75_0_1, n_e75_0_4, true_and, and_true, forall_const, implies_true] at h ⊢
    try exact h, by rw [Tr.map_get, h3g_75_0 p s]⟩) h4_75_0
theorem ok75 : LoopsOk th Try.prog (autoH [(3, L75_0)] [] [] [2, 3, 37] : Hints th) (bodyOf Try.prog 75) := autoH_ok (bs := [lpAt Try.prog 75 0]) (by kernel_rfl) fun b hb L hL => by
  simp only [List.mem_cons, List.not_mem_nil, or_false] at hb
  rcases hb with rfl
  · have e : lookL [(3, L75_0)] (firstReg (lpAt Try.prog 75 0)) = some L75_0 := by kernel_rfl
    rw [e] at hL; cases hL
    exact ls75_0
noncomputable def f75_5 (v : V75) : (S75_0) := S75_0.mk (0:Nat) v.f (0:Nat) (colI (fun (j:Nat) => []) (0:Nat))
noncomputable def f75_6 (v : V75) : (S75_0) := lastS (r75_0 (P75_0.mk v.f v.c v.M)) (f75_5 v)
noncomputable def f75_0 (v : V75) : (Prop) := ∀ (i:Nat), i < (0:Nat) → (fun (j:Nat) => []) i = elC (fun (j:Nat) => []) (0:Nat) [Ck.int IntKind.u64] i
noncomputable def f75_1 (v : V75) : (Prop) := LT (r75_0 (P75_0.mk v.f v.c v.M)) (f75_5 v)
noncomputable def f75_2 (v : V75) : (Nat) := (f75_6 v).n3
noncomputable def f75_3 (v : V75) : (Nat) := (f75_6 v).N2
noncomputable def f75_4 (v : V75) : Nat → (Int) := fun (j:Nat) => (f75_6 v).F2_0 j
theorem n_f75_0 (v : V75) : f75_0 v := by
  unfold f75_0
  (repeat' first | intro _ | apply And.intro) <;> first | rfl | exact absurd (by assumption) (Nat.not_lt_zero _) | exact scpL_rowSet (by rfl) (by rfl) | exact scpL_rowEl (by kernel_rfl) _ | omega | decide
noncomputable def ff75 (v : V75) : Tr (Fin th.R) := (Tr.need (f75_0 v) (Tr.need (f75_1 v) (Tr.leaf ((SV.slc (2:Nat) (1:Nat) (0:Nat) (f75_2 v)), [(HO.cells (175:Nat) [(SV.ptr (1:Nat) (0:Nat)), SV.int .u64 (v.f), SV.int .i64 (v.c)]), HO.res (v.M), (HO.row (22:Nat) (1:Nat) (f75_3 v) (fun j => [SV.int .u64 (f75_4 v j)]))], List.nil))))
noncomputable def f75 (v : V75) : Tr (Fin th.R) := (Tr.need (f75_1 v) (Tr.leaf ((SV.slc (2:Nat) (1:Nat) (0:Nat) (f75_2 v)), [(HO.cells (175:Nat) [(SV.ptr (1:Nat) (0:Nat)), SV.int .u64 (v.f), SV.int .i64 (v.c)]), HO.res (v.M), (HO.row (22:Nat) (1:Nat) (f75_3 v) (fun j => [SV.int .u64 (f75_4 v j)]))], [])))
noncomputable def C75 : CF th.R := fnC d75 ofV75 (f75 )
theorem q75 (v : V75) : (evFn th Try.prog (auto th Try.prog nice60n [] 20) (autoH [(3, L75_0)] [] [] [2, 3, 37] : Hints th) 75) (A75 v) (H75 v) = some (ff75 v) := by kernel_rfl
theorem qg75 (v : V75) : ((ff75 v).map (setD [])).get = (f75 v).get := by kernel_rfl
theorem qd75 (v : V75) : allD 2 [] (ff75 v) = true := by kernel_rfl
theorem s75 : Sound Try.prog th 75 (C75 ) := fnC_sound (evFn_sound' (T := th) (P := Try.prog) (tbl := (auto th Try.prog nice60n [] 20)) (auto_sound (nice := nice60n) (us := []) nok60n 20) (H := (autoH [(3, L75_0)] [] [] [2, 3, 37] : Hints th)) (k := 75) (fnLoops ok75)) d75 A75 H75 toV75 (by kernel_rfl) (fun v => by kernel_rfl)
  (fun l v h => by
    unfold ofV75 at h
    split at h
    · cases h; rfl
    · cases h)
  [] (fun v => ⟨ff75 v, q75 v, fun h => by
    unfold f75 at h; unfold ff75
    simp only [Tr.ok, n_f75_0, true_and, and_true, forall_const, implies_true] at h ⊢
    try exact h, qg75 v, qd75 v⟩)
theorem qdd75 (v : V75) : (f75 v).get.2.2 = [] := by
  rw [← qg75, Tr.map_get]; rfl
set_option maxRecDepth 100000
structure S69_0 where
  x5 : Int
instance : Inhabited S69_0 := ⟨⟨0⟩⟩
theorem cndB {α : Type} (c : Bool) (a b : α) : cnd c a b = if c = true then a else b := by cases c <;> rfl
theorem bltT {j k : Nat} : (Nat.blt j k = true) = (j < k) := propext (by simp [Nat.blt_eq])
theorem cnd_or (c d : Bool) : cnd c true d = (c || d) := by cases c <;> rfl
theorem wi {x : Int} (h1 : -9223372036854775808 ≤ x) (h2 : x < 9223372036854775808) : IntKind.i64.wrap x = x := wrap_i64 h1 h2
theorem LT.post {R S : Type} [Inhabited S] {f : S → Tr (Rs R S)} (V Q : S → Prop) (μ : S → Nat)
    (h : ∀ s, V s → (f s).ok ∧ (((∃ ex sl hp, (f s).get = .out ex sl hp) ∧ Q s) ∨ ∃ s', (f s).get = .on s' ∧ V s' ∧ μ s' < μ s)) {s : S} (hs : V s) : LT f s ∧ Q (lastS f s) := by
  generalize hm : μ s = m
  induction m using Nat.strongRecOn generalizing s with
  | ind m ih =>
    obtain ⟨h1, ⟨⟨ex, sl, hp, h2⟩, h5⟩ | ⟨s', h2, h3, h4⟩⟩ := h s hs
    · exact ⟨.out h1 h2, by rw [lastS_out h2]; exact h5⟩
    · obtain ⟨a, b⟩ := ih (μ s') (by omega) h3 rfl
      exact ⟨.on h1 h2 a, by rw [lastS_on h2]; exact b⟩
structure Nd where
  t : Int
  k : Int
  a : Int
  b : Int
  r : Int
  g : Int
  s : Int
  m : Int
  d : Int
deriving DecidableEq
def nd0 : Nd := ⟨0, 0, 0, 0, 0, 0, 0, 0, 0⟩
def ndC (x : Nd) : List SV := [.int .u64 x.t, .int .i64 x.k, .int .u64 x.a, .int .i64 x.b, .int .i64 x.r, .int .i64 x.g, .int .i64 x.s, .int .u64 x.m, .int .i64 x.d]
def nds (f : Nat → Nd) (L:Nat) : List Nd := (List.range L).map f
def gN (l : List Nd) (j:Nat) : Nd := l.getD j nd0
theorem nds_len (f : Nat → Nd) (L:Nat) : (nds f L).length = L := by simp [nds]
theorem nds_get {f : Nat → Nd} {L j : Nat} (h : j < L) : (nds f L)[j]? = some (f j) := by simp [nds, List.getElem?_map, List.getElem?_range h]
theorem nds_gN (l : List Nd) : nds (gN l) l.length = l := by
  apply List.ext_getElem?
  intro j
  by_cases h : j < l.length
  · rw [nds_get h]; simp [gN, List.getD, List.getElem?_eq_getElem h]
  · rw [List.getElem?_eq_none (by rw [nds_len]; omega), List.getElem?_eq_none (by omega)]
def fnd (l : List Nd) (a:Int) : Int := match l.findIdx? (fun x => x.t == a) with
  | some i => (i:Int)
  | none => -1
theorem fnd_at {f : Nat → Nd} {L i : Nat} {a : Int} (h1 : i < L) (h2 : (f i).t = a) (h3 : ∀ j, j < i → (f j).t ≠ a) : fnd (nds f L) a = i := by
  have : (nds f L).findIdx? (fun x => x.t == a) = some i := by
    rw [List.findIdx?_eq_some_iff_getElem]
    refine ⟨by rw [nds_len]; exact h1, by simp [nds, h2], fun j hj => ?_⟩
    have := h3 j hj
    simp [nds, this]
  rw [fnd, this]
theorem fnd_none {f : Nat → Nd} {L : Nat} {a : Int} (h3 : ∀ j, j < L → (f j).t ≠ a) : fnd (nds f L) a = -1 := by
  have : (nds f L).findIdx? (fun x => x.t == a) = none := by
    rw [List.findIdx?_eq_none_iff]
    intro x hx
    simp only [nds, List.mem_map, List.mem_range] at hx
    obtain ⟨j, hj, rfl⟩ := hx
    have := h3 j hj
    simp [this]
  rw [fnd, this]
theorem fnd_cases (f : Nat → Nd) (L:Nat) (a:Int) : (∃ i : Nat, i < L ∧ (f i).t = a ∧ (∀ j, j < i → (f j).t ≠ a) ∧ fnd (nds f L) a = i) ∨ ((∀ j, j < L → (f j).t ≠ a) ∧ fnd (nds f L) a = -1) := by
  by_cases h : ∃ i, i < L ∧ (f i).t = a
  · have hx : ∃ i, i < L ∧ (f i).t = a ∧ ∀ j, j < i → (f j).t ≠ a := by
      obtain ⟨i, h1, h2⟩ := h
      induction i using Nat.strongRecOn with
      | ind i ih =>
        by_cases hj : ∃ j, j < i ∧ (f j).t = a
        · obtain ⟨j, k1, k2⟩ := hj
          exact ih j k1 (by omega) k2
        · exact ⟨i, h1, h2, fun j k1 k2 => hj ⟨j, k1, k2⟩⟩
    obtain ⟨i, h1, h2, h3⟩ := hx
    exact .inl ⟨i, h1, h2, h3, fnd_at h1 h2 h3⟩
  · have h3 : ∀ j, j < L → (f j).t ≠ a := fun j k1 k2 => h ⟨j, k1, k2⟩
    exact .inr ⟨h3, fnd_none h3⟩
def putN (l : List Nd) (i:Nat) (x : Nd) : List Nd := l.take i ++ x :: l.drop i
theorem putN_len (l : List Nd) (i:Nat) (x : Nd) : (putN l i x).length = l.length + 1 := by simp [putN]; omega
def rowN {R : Type} (l : List Nd) : HO R := .row 100 9 l.length (fun j => ndC (gN l j))
def mayT (z a:Int) : Int := cnd (a.tmod 32 != 0) 13 (cnd (decide (a ≥ z)) 12 0)
def frT (z:Int) (l : List Nd) (a:Int) : Int := cnd (mayT z a != 0) (mayT z a) (cnd (a == 0) 12 (cnd (decide (fnd l a ≥ 0)) 16 0))
def hdT (z:Int) (l : List Nd) (a:Int) : Int := cnd (cnd (mayT z a == 0) (decide (fnd l a < 0)) false) 14 (mayT z a)
def badC (x : Nd) : Bool := cnd (!f50_2 x.k x.a x.b x.r x.g x.s x.m) true (x.k == 0)
def ftT (z:Int) (l : List Nd) (x : Nd) : Int := cnd (frT z l x.t != 0) (frT z l x.t) (cnd (badC x) 10 (cnd (decide ((l.length:Int) ≥ 65536)) 15 0))
def rtL (z:Int) (l : List Nd) (x : Nd) : List Nd := cnd (ftT z l x != 0) l (putN l 0 x)
def rtR (z:Int) (l : List Nd) (x : Nd) : Int := cnd (ftT z l x != 0) (ftT z l x) 0
def atN (l : List Nd) (a:Int) : Nd := gN l (fnd l a).toNat
def chR (z:Int) (l : List Nd) (p:Int) (x : Nd) : Int := cnd (hdT z l p != 0) (hdT z l p) (cnd (ftT z l x != 0) (ftT z l x) (cnd (decide ((atN l p).d ≥ 4096)) 42 0))
def chL (z:Int) (l : List Nd) (p:Int) (x : Nd) : List Nd := cnd (hdT z l p != 0) l (cnd (ftT z l x != 0) l (cnd (decide ((atN l p).d ≥ 4096)) l
  (putN l ((fnd l p).toNat + 1) { x with d := IntKind.i64.wrap ((atN l p).d + 1) })))
def slN (x : Nd) : Sl := ⟨x.k, x.a, x.b, x.r, x.g, x.s, x.m, 0, 0, 0⟩
noncomputable def op0 : TS × List Nd := (⟨newM 65536, 0, 0⟩, [])
theorem newM_R (n:Int) : MemR (newM n) := fun a => u0
theorem op0_R : TR op0.1 := ⟨newM_R _, u0, i0⟩
theorem rtL_len (z:Int) (l : List Nd) (x : Nd) : (rtL z l x).length ≤ l.length + 1 := by
  unfold rtL
  cases (ftT z l x != 0)
  · exact Nat.le_of_eq (putN_len _ _ _)
  · exact Nat.le_succ _
set_option maxRecDepth 100000
noncomputable def nice69n : List (Nat × CF th.R) := nice60n
theorem nok69n : NiceOk Try.prog th nice69n := nok60n
set_option maxRecDepth 100000
set_option maxRecDepth 100000
noncomputable def nice183n : List (Nat × CF th.R) := nice69n
theorem nok183n : NiceOk Try.prog th nice183n := nok69n
set_option maxRecDepth 100000
set_option maxRecDepth 100000
noncomputable def nice168n : List (Nat × CF th.R) := nice183n
theorem nok168n : NiceOk Try.prog th nice168n := nok183n
set_option maxRecDepth 100000
set_option maxRecDepth 100000
noncomputable def nice169n : List (Nat × CF th.R) := nice168n
theorem nok169n : NiceOk Try.prog th nice169n := nok168n
end Go.Sx.M

