/- Contracts of the functions of this seat, each by the executor and the kernel; part 2. Their conditions stand in each. -/
import Derived.Test.YtoldganbhlgboaaC1
import Derived.Sort.AssemblyPlain
set_option linter.unusedVariables false
set_option linter.unusedSimpArgs false
namespace Go.Sx.M
open Go Go.Sx

theorem size_eq (k b:Int) : (f172_1 k b = true ∧ f172_0 k b = f176_0 k b ∧ (f176_0 k b = -1 ∨ (5 ≤ f176_0 k b ∧ f176_0 k b ≤ 32))) ∨ (f172_1 k b = false ∧ f176_0 k b = -2) := by
  simp only [f172_0, f172_1, f173_0, f173_1, f176_0, cnd_eq]
  grind (splits := 60) [wrap_i64]
theorem lies_eq {k a b r g s m : Int} (ha : 0 ≤ a) (ha2 : a < 18446744073709551616) : f120_0 k a b r g s m = f127_1 k a b r g s m := by
  rcases size_eq k b with ⟨h1, h2, h3 | ⟨h3, h4⟩⟩ | ⟨h1, h2⟩
  · simp only [f120_0, f127_1, h1, h2, h3, cnd_eq]
    simp
  · rw [lies_at h1 (by omega) (by omega) ha ha2]
    have hp := p26_eq (n := (f176_0 k b).toNat) (by omega)
    have hle := p26_le (n := (f176_0 k b).toNat) (m := 32) (by omega) (by omega)
    have h32 : p26 32 = 4294967296 := by decide +kernel
    have hpos := p26_pos (n := (f176_0 k b).toNat) (by omega)
    have hdvd : p26 (f176_0 k b).toNat ∣ 4294967296 := by
      rw [hp]
      have : (4294967296:Int) = ((2 ^ 32:Nat):Int) := by decide
      rw [this, Int.natCast_dvd_natCast]
      exact Nat.pow_dvd_pow 2 (by omega)
    have hd : decide (f176_0 k b < 0) = false := by simp; omega
    have htm : a.tmod (p26 (f176_0 k b).toNat) = a % p26 (f176_0 k b).toNat := Int.tmod_eq_emod_of_nonneg ha
    simp only [f127_1, h2, hd, htm, cnd_eq]
    generalize p26 (f176_0 k b).toNat = q at *
    by_cases hal : a % q = 0
    · by_cases hlt : a < 4294967296
      · have hd : q ∣ 4294967296 - a := Int.dvd_sub hdvd (Int.dvd_of_emod_eq_zero hal)
        have hle2 : q ≤ 4294967296 - a := Int.le_of_dvd (by omega) hd
        rw [wrap_u64_id (x := a + q) (by omega) (by omega)]
        simp [hal, hlt]
        omega
      · simp [hal, hlt]
    · simp [hal]
  · have hf : f120_0 k a b r g s m = false := by simp only [f120_0, h1, cnd_eq]; simp
    rw [hf]
    simp only [f127_1, h2, cnd_eq]
    simp
theorem low_eq {m : Int} (hm : 0 ≤ m) : f195_1 m = decide (m < 281474976710656) := by
  have : m.fdiv 281474976710656 = m / 281474976710656 := Int.fdiv_eq_ediv_of_nonneg m (by omega)
  simp only [f195_1, this]
  by_cases h : m < 281474976710656
  · have : m / 281474976710656 = 0 := by omega
    simp [h, this]
  · have : ¬ m / 281474976710656 = 0 := by omega
    simp [h, this]
theorem bits_eq {l : Int} (h0 : 0 ≤ l) (h1 : l < 4) : f194_0 l = 12 + 9 * (3 - l) ∧ f213_2 l = 12 + 9 * (3 - l) := by
  have : l = 0 ∨ l = 1 ∨ l = 2 ∨ l = 3 := by omega
  rcases this with rfl | rfl | rfl | rfl <;> decide +kernel
theorem base_eq {m l : Int} (hm : 0 ≤ m) (hm2 : m < 281474976710656) (h0 : 0 ≤ l) (h1 : l < 4) : f196_0 m l = f197_2 m l := by
  obtain ⟨w, rfl⟩ : ∃ w : Nat, m = w := ⟨m.toNat, by omega⟩
  obtain ⟨e1, e2⟩ := bits_eq h0 h1
  have hk : f210_0 l = true := by simp [f210_0, cnd_eq]; omega
  have ht : ((w:Int)).tmod 281474976710656 = w := by
    rw [Int.tmod_eq_emod_of_nonneg (by omega)]; omega
  have ha : Go.bits Go.BinOp.and IntKind.u64 (w:Int) 281474976710655 = w := by
    have : (281474976710655:Int) = ((281474976710655:Nat):Int) := rfl
    rw [this, u64_and_nat w _ (by omega) (by omega)]
    have e3 : 281474976710655 = 2 ^ 48 - 1 := by decide
    rw [e3, Nat.and_two_pow_sub_one_eq_mod]
    congr 1
    exact Nat.mod_eq_of_lt (by have : (2:Nat)^48 = 281474976710656 := by decide
                               omega)
  have hmin : min (12 + 9 * (3 - l)).toNat 64 = (12 + 9 * (3 - l)).toNat := by omega
  simp only [f196_0, hk, ha, f211_0, e1, f197_2, ht, e2, cnd]
  rw [downI_eq (by omega), hmin]
  exact andNot_ones (by omega) (by omega) (by omega)
theorem place_eq {m l : Int} (hm : 0 ≤ m) (h0 : 0 ≤ l) (h1 : l < 4) : cnd (f195_1 m) (f196_0 m l == m) false = f177_1 m l := by
  rw [low_eq hm, f177_1]
  by_cases h : m < 281474976710656
  · rw [base_eq hm h h0 h1]
  · simp [h, cnd_eq]
theorem below_pow {m g : Int} (hm : 0 ≤ m) (hm2 : m < 18446744073709551616) (h0 : 0 ≤ g) (h1 : g ≤ 63) : (Go.bits Go.BinOp.andNot IntKind.u64 m (f123_1 g) == 0) = decide (m < p26 g.toNat) := by
  obtain ⟨w, rfl⟩ : ∃ w : Nat, m = w := ⟨m.toNat, by omega⟩
  have hpos : 0 < 2 ^ g.toNat := Nat.pow_pos (by omega)
  rw [andNot_ones (by omega) h0 h1, p26_eq (by omega)]
  by_cases h : w < 2 ^ g.toNat
  · have e : w / 2 ^ g.toNat = 0 := Nat.div_eq_of_lt h
    have h' : (w:Int) < ((2 ^ g.toNat:Nat):Int) := Int.ofNat_lt.2 h
    simp only [e, h', decide_true, Nat.zero_mul]
    rfl
  · have e : 0 < w / 2 ^ g.toNat := Nat.div_pos (by omega) hpos
    have e2 : 0 < w / 2 ^ g.toNat * 2 ^ g.toNat := Nat.mul_pos e hpos
    have h' : ¬ (w:Int) < ((2 ^ g.toNat:Nat):Int) := fun x => h (Int.ofNat_lt.1 x)
    simp only [h', decide_false]
    generalize w / 2 ^ g.toNat * 2 ^ g.toNat = z at *
    simp
    omega
theorem rights_eq (r:Int) : f119_0 r 3 = (decide (0 ≤ r) && decide (r ≤ 3)) := by
  by_cases h : 0 ≤ r ∧ r ≤ 7
  · have : r = 0 ∨ r = 1 ∨ r = 2 ∨ r = 3 ∨ r = 4 ∨ r = 5 ∨ r = 6 ∨ r = 7 := by omega
    rcases this with rfl | rfl | rfl | rfl | rfl | rfl | rfl | rfl <;> decide +kernel
  · have h1 : f116_0 r = false := by simp [f116_0, cnd_eq]; omega
    simp only [f119_0, h1, cnd]
    simp
    omega
theorem marked_eq {k a b r g s m : Int} (hb : -9223372036854775808 ≤ b ∧ b < 9223372036854775808) (hm : 0 ≤ m) (hm2 : m < 18446744073709551616) (hg : 0 ≤ g) (hg2 : g < 9223372036854775808) (hgk : k = 2 ∨ k = 4 ∨ g = 0)
    (hs : 0 ≤ s) (hsk : k = 3 ∨ k = 4 ∨ k = 5 ∨ s = 0) (hn : f172_1 k b = true) : f121_1 k a b r g s m = f128_5 k a b r g s m := by
  by_cases k1 : k = 1
  · subst k1
    have hb2 : 5 ≤ b ∧ b ≤ 32 := by revert hn; simp [f172_1, cnd_eq]
    have hg0 : g = 0 := by omega
    subst hg0
    have hpos := p26_pos (n := b.toNat) (by omega)
    have hle := p26_le (n := b.toNat) (m := 32) (by omega) (by omega)
    have h32 : p26 32 = 4294967296 := by decide +kernel
    have h5 : p26 (Int.toNat 5) = 32 := by decide +kernel
    have htm : m.tmod 32 = m % 32 := Int.tmod_eq_emod_of_nonneg hm
    simp only [f121_1, f128_5, ones_eq (n := b) (by omega) (by omega), aligned_eq (n := 5) hm hm2 (by omega) (by omega), h5, htm, cnd_eq]
    rw [wrap_u64_id (by omega) (by omega)]
    by_cases hh : m % 32 = 0 <;> simp [hh]
  by_cases k2 : k = 2
  · subst k2
    have hb2 : 1 ≤ b ∧ b ≤ 12 := by revert hn; simp [f172_1, cnd_eq]
    have hw : IntKind.i64.wrap (64 - b) = 64 - b := wrap_i64 (by omega) (by omega)
    simp only [f121_1, f128_5, hw, cnd_eq]
    by_cases hg3 : g ≤ 63
    · rw [below_pow hm hm2 hg hg3]
      grind
    · grind
  by_cases k3 : k = 3
  · subst k3
    have hg0 : g = 0 := by omega
    subst hg0
    have hb2 : b = 12 ∨ b = 21 ∨ b = 30 := by revert hn; simp only [f172_1, f173_0, f173_1, cnd_eq]; grind
    by_cases hs0 : s = 0
    · subst hs0; simp [f121_1, f128_5, f174_0, cnd_eq]
    · have hp : ∀ l, 0 ≤ l → l < 4 → cnd (f195_1 m) (f196_0 m l == m) false = f177_1 m l := fun l h0 h1 => place_eq hm h0 h1
      have e1 : f173_0 12 = 3 := by decide +kernel
      have e2 : f173_0 21 = 2 := by decide +kernel
      have e3 : f173_0 30 = 1 := by decide +kernel
      rcases hb2 with rfl | rfl | rfl
      · simp only [f121_1, f128_5, f174_0, e1, hp 3 (by omega) (by omega)]; simp [cnd_eq, hs0]
      · simp only [f121_1, f128_5, f174_0, e2, hp 2 (by omega) (by omega)]; simp [cnd_eq, hs0]
      · simp only [f121_1, f128_5, f174_0, e3, hp 1 (by omega) (by omega)]; simp [cnd_eq, hs0]
  by_cases k4 : k = 4
  · subst k4
    by_cases hs0 : s = 0
    · subst hs0
      simp only [f121_1, f128_5, f174_0, cnd_eq]
      grind
    · have hw : IntKind.i64.wrap (g - 1) = g - 1 := wrap_i64 (by omega) (by omega)
      by_cases hg1 : 1 ≤ g ∧ g ≤ 3
      · have hp := place_eq (m := m) (l := g - 1) hm (by omega) (by omega)
        simp only [f121_1, f128_5, f174_0, hw, hp]
        simp only [cnd_eq]
        grind
      · simp only [f121_1, f128_5, f174_0, hw, cnd_eq]
        grind
  have hg0 : g = 0 := by omega
  subst hg0
  by_cases k7 : k = 7
  · subst k7; simp [f121_1, f128_5, cnd_eq]
  by_cases k9 : k = 9
  · subst k9; simp [f121_1, f128_5, cnd_eq]
  by_cases k10 : k = 10
  · subst k10
    have hb2 : 1 ≤ b ∧ b ≤ 12 := by revert hn; simp [f172_1, cnd_eq]
    have e3 : min b.toNat IntKind.u64.bits = b.toNat := by simp only [IntKind.bits]; omega
    have e4 : (2:Int) ^ b.toNat = p26 b.toNat := by rw [p26_eq (by omega)]; simp
    have hpos := p26_pos (n := b.toNat) (by omega)
    have hle := p26_le (n := b.toNat) (m := 32) (by omega) (by omega)
    have h32 : p26 32 = 4294967296 := by decide +kernel
    have e5 : IntKind.u64.wrap (1 * p26 b.toNat) = p26 b.toNat := by rw [Int.one_mul, wrap_u64_id (by omega) (by omega)]
    simp [f121_1, f128_5, cnd_eq, e3, e4]
    rw [wrap_u64_id (by omega) (by omega)]
  · simp [f121_1, f128_5, cnd_eq, k1, k2, k3, k4, k7, k9, k10]
theorem right_eq {k a b r g s m : Int} (ha : 0 ≤ a) (ha2 : a < 18446744073709551616) (hb : -9223372036854775808 ≤ b ∧ b < 9223372036854775808) (hm : 0 ≤ m) (hm2 : m < 18446744073709551616) (hg2 : g < 9223372036854775808) :
    f45_1 k a b r g s m = f50_2 k a b r g s m := by
  by_cases hl : f127_1 k a b r g s m = true
  · have hn : f172_1 k b = true := by
      rcases size_eq k b with ⟨h, _⟩ | ⟨_, h⟩
      · exact h
      · exfalso; revert hl; simp [f127_1, h, cnd_eq]
    by_cases hc : 0 ≤ g ∧ (k = 2 ∨ k = 4 ∨ g = 0) ∧ 0 ≤ s ∧ (k = 3 ∨ k = 4 ∨ k = 5 ∨ s = 0)
    · obtain ⟨c1, c2, c3, c4⟩ := hc
      simp only [f45_1, f50_2, lies_eq ha ha2, hl, marked_eq hb hm hm2 c1 hg2 c2 c3 c4 hn, rights_eq, f118_0, f116_0, cnd_eq]
      generalize f128_5 k a b r g s m = z
      grind (splits := 40)
    · by_cases hgz : 0 ≤ g ∧ (k = 2 ∨ k = 4 ∨ g = 0)
      · have : ¬ (0 ≤ s ∧ (k = 3 ∨ k = 4 ∨ k = 5 ∨ s = 0)) := fun h => hc ⟨hgz.1, hgz.2, h.1, h.2⟩
        simp only [f45_1, f50_2, lies_eq ha ha2, hl, cnd_eq]
        generalize f128_5 k a b r g s m = z
        generalize f121_1 k a b r g s m = z'
        grind (splits := 40)
      · have hz : f128_5 k a b r g s m = false := by
          simp only [f128_5, cnd_eq]
          grind (splits := 40)
        simp only [f45_1, f50_2, lies_eq ha ha2, hl, hz, cnd_eq]
        generalize f121_1 k a b r g s m = z'
        grind (splits := 40)
  · simp only [Bool.not_eq_true] at hl
    simp only [f45_1, f50_2, lies_eq ha ha2, hl, cnd_eq]
    simp
end Go.Sx.M

namespace Go.Sx.M
open Go Go.Sx

theorem cf {α : Type} (a b : α) : cnd false a b = b := rfl
theorem right_size' {k a b r g s m : Int} (h : f45_1 k a b r g s m = true) : f172_1 k b = true ∧ f172_0 k b = f176_0 k b ∧ (f176_0 k b = -1 ∨ (5 ≤ f176_0 k b ∧ f176_0 k b ≤ 32)) := by
  rcases size_eq k b with h1 | ⟨h1, _⟩
  · exact h1
  · rw [right_size h1] at h; cases h
end Go.Sx.M

namespace Go.Sx.M
open Go Go.Sx

theorem field_get {l d : Int} {w : Nat} (hw : w < 18446744073709551616) (hf : f165_0 l d = true) (h0 : 0 ≤ l) (h1 : l ≤ 63) (h2 : 1 ≤ d) (h3 : d ≤ 63) : f102_1 l d w = ((w / 2 ^ l.toNat % 2 ^ d.toNat:Nat):Int) := by
  have hp := p26_eq (n := d.toNat) (by omega)
  have hpos : 0 < 2 ^ d.toNat := Nat.pow_pos (by omega)
  have hle : 2 ^ d.toNat ≤ 2 ^ 63 := Nat.pow_le_pow_right (by omega) (by omega)
  have h63 : (2:Nat) ^ 63 = 9223372036854775808 := by decide
  have e : p26 d.toNat - 1 = ((2 ^ d.toNat - 1:Nat):Int) := by rw [hp]; omega
  have e3 : min l.toNat IntKind.u64.bits = l.toNat := by simp only [IntKind.bits]; omega
  have e4 : ((w:Int)).fdiv (2 ^ l.toNat) = ((w / 2 ^ l.toNat:Nat):Int) := by
    rw [Int.fdiv_eq_ediv_of_nonneg _ (by exact Int.le_of_lt (Int.pow_pos (by omega)))]
    simp
  have hq : w / 2 ^ l.toNat ≤ w := Nat.div_le_self _ _
  have hn : (!f165_0 l d) = false := by rw [hf]; rfl
  simp only [f102_1, hn, cf, e3, e4, ones_eq (n := d) (by omega) h3, e]
  rw [u64_and_nat _ _ (by omega) (by omega), Nat.and_two_pow_sub_one_eq_mod]
theorem field_put {l d : Int} {w v : Nat} (hf : f165_0 l d = true) (h0 : 0 ≤ l) (h1 : l ≤ 63) (h2 : 1 ≤ d) (h3 : d ≤ 63) (h4 : l + d ≤ 64) (hw : w < 2 ^ l.toNat) (hv : v < 2 ^ d.toNat) :
    f192_1 l d w v = ((w + v * 2 ^ l.toNat:Nat):Int) := by
  have hp := p26_eq (n := d.toNat) (by omega)
  have hpos : 0 < 2 ^ d.toNat := Nat.pow_pos (by omega)
  have hposl : 0 < 2 ^ l.toNat := Nat.pow_pos (by omega)
  have h64 : (2:Nat) ^ 64 = 18446744073709551616 := by decide
  have hd : 2 ^ d.toNat ≤ 2 ^ 63 := Nat.pow_le_pow_right (by omega) (by omega)
  have hl : 2 ^ l.toNat ≤ 2 ^ 63 := Nat.pow_le_pow_right (by omega) (by omega)
  have h63 : (2:Nat) ^ 63 = 9223372036854775808 := by decide
  have hprod : 2 ^ d.toNat * 2 ^ l.toNat ≤ 2 ^ 64 := by rw [← Nat.pow_add]; exact Nat.pow_le_pow_right (by omega) (by omega)
  have e : p26 d.toNat - 1 = ((2 ^ d.toNat - 1:Nat):Int) := by rw [hp]; omega
  have e3 : min l.toNat IntKind.u64.bits = l.toNat := by simp only [IntKind.bits]; omega
  have hn : (!f165_0 l d) = false := by rw [hf]; rfl
  have hbel := below_pow (m := v) (g := d) (by omega) (by omega) (by omega) h3
  have hlt : decide ((v:Int) < p26 d.toNat) = true := by rw [hp]; simp only [decide_eq_true_eq]; exact Int.ofNat_lt.2 hv
  rw [hlt] at hbel
  have hne : (Go.bits Go.BinOp.andNot IntKind.u64 (v:Int) (f123_1 d) != 0) = false := by rw [bne, hbel]; rfl
  have hm1 : (2 ^ d.toNat - 1) * 2 ^ l.toNat < 18446744073709551616 := by
    have : (2 ^ d.toNat - 1) * 2 ^ l.toNat < 2 ^ d.toNat * 2 ^ l.toNat := Nat.mul_lt_mul_of_pos_right (by omega) hposl
    omega
  have hv1 : v * 2 ^ l.toNat < 18446744073709551616 := by
    have : v * 2 ^ l.toNat < 2 ^ d.toNat * 2 ^ l.toNat := Nat.mul_lt_mul_of_pos_right hv hposl
    omega
  have emask : f209_1 l d = (((2 ^ d.toNat - 1) * 2 ^ l.toNat:Nat):Int) := by
    simp only [f209_1, hn, cf, e3, ones_eq (n := d) (by omega) h3, e]
    have : (((2 ^ d.toNat - 1:Nat):Int)) * 2 ^ l.toNat = (((2 ^ d.toNat - 1) * 2 ^ l.toNat:Nat):Int) := by simp
    rw [this, wrap_u64_id (Int.natCast_nonneg _) (by omega)]
  have eshl : IntKind.u64.wrap ((v:Int) * 2 ^ l.toNat) = ((v * 2 ^ l.toNat:Nat):Int) := by
    have : (v:Int) * 2 ^ l.toNat = ((v * 2 ^ l.toNat:Nat):Int) := by simp
    rw [this, wrap_u64_id (Int.natCast_nonneg _) (by omega)]
  simp only [f192_1, hn, hne, cf, emask, e3, eshl]
  have hkeep : w &&& (18446744073709551615 - (2 ^ d.toNat - 1) * 2 ^ l.toNat) = w := by
    apply Nat.eq_of_testBit_eq
    intro j
    have e1 : 18446744073709551615 - (2 ^ d.toNat - 1) * 2 ^ l.toNat = 2 ^ 64 - ((2 ^ d.toNat - 1) * 2 ^ l.toNat + 1) := by omega
    rw [e1, Nat.testBit_and, Nat.testBit_two_pow_sub_succ (by omega), ← Nat.shiftLeft_eq, Nat.testBit_shiftLeft]
    by_cases hj : j < l.toNat
    · have h1 : j < 64 := by omega
      have h2 : ¬ j ≥ l.toNat := by omega
      simp [h1, h2]
    · have : w.testBit j = false := Nat.testBit_lt_two_pow (Nat.lt_of_lt_of_le hw (Nat.pow_le_pow_right (by omega) (by omega)))
      simp [this]
  rw [u64_andNot_nat w _ (by omega) (by omega), hkeep, u64_or_nat w _ (by omega) (by omega)]
  congr 1
  rw [Nat.or_comm, Nat.mul_comm, ← Nat.two_pow_add_eq_or_of_lt hw, Nat.add_comm]
end Go.Sx.M

namespace Go.Sx.M
open Go Go.Sx

theorem right_ranges {k a b r g s m : Int} (ha : 0 ≤ a) (ha2 : a < 18446744073709551616) (h : f50_2 k a b r g s m = true) (h1 : f45_1 k a b r g s m = true) :
    (0 ≤ k ∧ k ≤ 10) ∧ (0 ≤ b ∧ b ≤ 32) ∧ (0 ≤ r ∧ r ≤ 7) ∧ (0 ≤ g ∧ g ≤ 63) ∧ (0 ≤ s ∧ s ≤ 4095) ∧ a < 4294967296 ∧ a % 32 = 0 := by
  obtain ⟨q1, q2, q3⟩ := right_size' h1
  have hk : 0 ≤ k ∧ k ≤ 10 := by revert q1; simp only [f172_1, f173_0, f173_1, cnd_eq]; grind (splits := 40)
  have hb : 0 ≤ b ∧ b ≤ 32 := by revert q1; simp only [f172_1, f173_0, f173_1, cnd_eq]; grind (splits := 40)
  have hl : f127_1 k a b r g s m = true := by
    cases hh : f127_1 k a b r g s m with
    | true => rfl
    | false => rw [← h]; simp [f50_2, hh, cnd_eq]
  have hr : 0 ≤ r ∧ r ≤ 7 := by revert h; simp only [f50_2, f118_0, hl, cnd_eq]; grind (splits := 40)
  have hs : 0 ≤ s ∧ s ≤ 4095 := by revert h; simp only [f50_2, f118_0, hl, cnd_eq]; grind (splits := 40)
  have hg0 : 0 ≤ g := by revert h1; simp only [f45_1, cnd_eq]; grind (splits := 40)
  have hm : f128_5 k a b r g s m = true := by revert h; simp only [f50_2, hl, cnd_eq]; grind (splits := 40)
  have hg : g ≤ 63 := by revert hm; simp only [f128_5, cnd_eq]; grind (splits := 40)
  have hal : a < 4294967296 ∧ a % 32 = 0 := by
    rcases q3 with q3 | ⟨q3, q4⟩
    · have : a = 0 := by revert hl; simp [f127_1, q3, cnd_eq]
      omega
    · have hd : decide (f176_0 k b < 0) = false := by simp; omega
      have htm : a.tmod (p26 (f176_0 k b).toNat) = a % p26 (f176_0 k b).toNat := Int.tmod_eq_emod_of_nonneg ha
      have hlt : a < 4294967296 := by revert hl; simp only [f127_1, hd, cnd_eq]; grind
      have hmod : a % p26 (f176_0 k b).toNat = 0 := by revert hl; simp only [f127_1, hd, htm, cnd_eq]; grind
      have hdvd : (32:Int) ∣ p26 (f176_0 k b).toNat := by
        rw [p26_eq (by omega)]
        have : (32:Int) = ((2 ^ 5:Nat):Int) := by decide
        rw [this, Int.natCast_dvd_natCast]
        exact Nat.pow_dvd_pow 2 (by omega)
      have := Int.dvd_trans hdvd (Int.dvd_of_emod_eq_zero hmod)
      exact ⟨hlt, by omega⟩
  exact ⟨hk, hb, hr, ⟨hg0, hg⟩, hs, hal⟩
def wordN (k b r g s q:Nat) : Nat := k + b * 16 + r * 1024 + g * 8192 + s * 524288 + q * 34359738368
theorem word_put {k b r g s q : Nat} (hk : k < 16) (hb : b < 64) (hr : r < 8) (hg : g < 64) (hs : s < 65536) (hq : q < 134217728) :
    f192_1 35 27 (f192_1 19 16 (f192_1 13 6 (f192_1 10 3 (f192_1 4 6 (f192_1 0 4 0 k) b) r) g) s) q = wordN k b r g s q := by
  have p4 : (2:Nat) ^ (Int.toNat 4) = 16 := by decide
  have p6 : (2:Nat) ^ (Int.toNat 6) = 64 := by decide
  have p10 : (2:Nat) ^ (Int.toNat 10) = 1024 := by decide
  have p3 : (2:Nat) ^ (Int.toNat 3) = 8 := by decide
  have p13 : (2:Nat) ^ (Int.toNat 13) = 8192 := by decide
  have p19 : (2:Nat) ^ (Int.toNat 19) = 524288 := by decide
  have p16 : (2:Nat) ^ (Int.toNat 16) = 65536 := by decide
  have p35 : (2:Nat) ^ (Int.toNat 35) = 34359738368 := by decide
  have p27 : (2:Nat) ^ (Int.toNat 27) = 134217728 := by decide
  have p0 : (2:Nat) ^ (Int.toNat 0) = 1 := by decide
  have e0 : f192_1 0 4 0 k = ((0 + k * 2 ^ (Int.toNat 0):Nat):Int) := field_put (w := 0) (by decide +kernel) (by omega) (by omega) (by omega) (by omega) (by omega) (by rw [p0]; omega) (by rw [p4]; omega)
  rw [e0, field_put (l := 4) (d := 6) (by decide +kernel) (by omega) (by omega) (by omega) (by omega) (by omega) (by rw [p0, p4]; omega) (by rw [p6]; omega)]
  rw [field_put (l := 10) (d := 3) (by decide +kernel) (by omega) (by omega) (by omega) (by omega) (by omega) (by rw [p0, p4, p10]; omega) (by rw [p3]; omega)]
  rw [field_put (l := 13) (d := 6) (by decide +kernel) (by omega) (by omega) (by omega) (by omega) (by omega) (by rw [p0, p4, p10, p13]; omega) (by rw [p6]; omega)]
  rw [field_put (l := 19) (d := 16) (by decide +kernel) (by omega) (by omega) (by omega) (by omega) (by omega) (by rw [p0, p4, p10, p13, p19]; omega) (by rw [p16]; omega)]
  rw [field_put (l := 35) (d := 27) (by decide +kernel) (by omega) (by omega) (by omega) (by omega) (by omega) (by rw [p0, p4, p10, p13, p19, p35]; omega) (by rw [p27]; omega)]
  rw [p0, p4, p10, p13, p19, p35]
  unfold wordN
  congr 1
  omega
theorem word_get {k b r g s q : Nat} (hk : k < 16) (hb : b < 64) (hr : r < 8) (hg : g < 64) (hs : s < 65536) (hq : q < 134217728) :
    f102_1 0 4 (wordN k b r g s q) = k ∧ f102_1 4 6 (wordN k b r g s q) = b ∧ f102_1 10 3 (wordN k b r g s q) = r ∧ f102_1 13 6 (wordN k b r g s q) = g ∧ f102_1 19 16 (wordN k b r g s q) = s ∧ f102_1 35 27 (wordN k b r g s q) = q := by
  have p4 : (2:Nat) ^ (Int.toNat 4) = 16 := by decide
  have p6 : (2:Nat) ^ (Int.toNat 6) = 64 := by decide
  have p10 : (2:Nat) ^ (Int.toNat 10) = 1024 := by decide
  have p3 : (2:Nat) ^ (Int.toNat 3) = 8 := by decide
  have p13 : (2:Nat) ^ (Int.toNat 13) = 8192 := by decide
  have p19 : (2:Nat) ^ (Int.toNat 19) = 524288 := by decide
  have p16 : (2:Nat) ^ (Int.toNat 16) = 65536 := by decide
  have p35 : (2:Nat) ^ (Int.toNat 35) = 34359738368 := by decide
  have p27 : (2:Nat) ^ (Int.toNat 27) = 134217728 := by decide
  have p0 : (2:Nat) ^ (Int.toNat 0) = 1 := by decide
  have hw : wordN k b r g s q < 18446744073709551616 := by unfold wordN; omega
  refine ⟨?_, ?_, ?_, ?_, ?_, ?_⟩
  · rw [field_get hw (by decide +kernel) (by omega) (by omega) (by omega) (by omega), p0, p4]; unfold wordN; omega
  · rw [field_get hw (by decide +kernel) (by omega) (by omega) (by omega) (by omega), p4, p6]; unfold wordN; omega
  · rw [field_get hw (by decide +kernel) (by omega) (by omega) (by omega) (by omega), p10, p3]; unfold wordN; omega
  · rw [field_get hw (by decide +kernel) (by omega) (by omega) (by omega) (by omega), p13, p6]; unfold wordN; omega
  · rw [field_get hw (by decide +kernel) (by omega) (by omega) (by omega) (by omega), p19, p16]; unfold wordN; omega
  · rw [field_get hw (by decide +kernel) (by omega) (by omega) (by omega) (by omega), p35, p27]; unfold wordN; omega
theorem word_right {k a b r g s m : Int} (ha : 0 ≤ a) (ha2 : a < 18446744073709551616) (h : f50_2 k a b r g s m = true) (h1 : f45_1 k a b r g s m = true) :
    f164_14 k a b r g s m = wordN k.toNat b.toNat r.toNat g.toNat s.toNat (a / 32).toNat ∧ f160_2 k a b r g s m = wordN k.toNat b.toNat r.toNat g.toNat s.toNat (a / 32).toNat := by
  obtain ⟨hk, hb, hr, hg, hs, hal, hmod⟩ := right_ranges ha ha2 h h1
  have hn : (!f45_1 k a b r g s m) = false := by rw [h1]; rfl
  have hq : a.fdiv 32 = a / 32 := Int.fdiv_eq_ediv_of_nonneg a (by omega)
  have ht : a.tdiv 32 = a / 32 := Int.tdiv_eq_ediv_of_nonneg ha
  obtain ⟨q, hq2⟩ : ∃ q : Nat, a / 32 = q := ⟨(a / 32).toNat, by omega⟩
  have hql : q < 134217728 := by omega
  simp only [f164_14, f160_2, hn, cf, hq, ht, hq2]
  clear h h1 hn hq ht hq2 hal hmod ha ha2
  obtain ⟨k, rfl⟩ : ∃ n : Nat, k = n := ⟨k.toNat, by omega⟩
  obtain ⟨b, rfl⟩ : ∃ n : Nat, b = n := ⟨b.toNat, by omega⟩
  obtain ⟨r, rfl⟩ : ∃ n : Nat, r = n := ⟨r.toNat, by omega⟩
  obtain ⟨g, rfl⟩ : ∃ n : Nat, g = n := ⟨g.toNat, by omega⟩
  obtain ⟨s, rfl⟩ : ∃ n : Nat, s = n := ⟨s.toNat, by omega⟩
  simp only [Int.toNat_natCast]
  rw [wrap_u64_id (x := (k:Int)) (by omega) (by omega), wrap_u64_id (x := (b:Int)) (by omega) (by omega), wrap_u64_id (x := (r:Int)) (by omega) (by omega), wrap_u64_id (x := (g:Int)) (by omega) (by omega),
    wrap_u64_id (x := (s:Int)) (by omega) (by omega), wrap_u64_id (x := (q:Int)) (by omega) (by omega)]
  constructor
  · exact word_put (by omega) (by omega) (by omega) (by omega) (by omega) (by omega)
  · rw [wrap_u64_id (x := (b:Int) * 16) (by omega) (by omega), wrap_u64_id (x := (k:Int) + b * 16) (by omega) (by omega)]
    rw [wrap_u64_id (x := (r:Int) * 1024) (by omega) (by omega), wrap_u64_id (x := (k:Int) + b * 16 + r * 1024) (by omega) (by omega)]
    rw [wrap_u64_id (x := (g:Int) * 8192) (by omega) (by omega), wrap_u64_id (x := (k:Int) + b * 16 + r * 1024 + g * 8192) (by omega) (by omega)]
    rw [wrap_u64_id (x := (s:Int) * 524288) (by omega) (by omega), wrap_u64_id (x := (k:Int) + b * 16 + r * 1024 + g * 8192 + s * 524288) (by omega) (by omega)]
    rw [wrap_u64_id (x := (q:Int) * 34359738368) (by omega) (by omega), wrap_u64_id (x := (k:Int) + b * 16 + r * 1024 + g * 8192 + s * 524288 + q * 34359738368) (by omega) (by omega)]
    unfold wordN
    omega
end Go.Sx.M

namespace Go.Sx.M
open Go Go.Sx

theorem words_at {k a b r g s m : Int} (h1 : f45_1 k a b r g s m = true) : f164_15 k a b r g s m = m ∧ f164_16 k a b r g s m = 0 := by
  simp [f164_15, f164_16, h1, cnd_eq]
theorem words_no {k a b r g s m : Int} (h1 : f45_1 k a b r g s m = false) : f164_14 k a b r g s m = 0 ∧ f164_15 k a b r g s m = 0 ∧ f164_16 k a b r g s m = 10 := by
  simp [f164_14, f164_15, f164_16, h1, cnd_eq]
end Go.Sx.M

namespace Go.Sx.M
open Go Go.Sx
structure Sl where
  k : Int
  a : Int
  b : Int
  r : Int
  g : Int
  s : Int
  m : Int
  x : Int
  p : Int
  d : Int
  deriving DecidableEq
def sl0 : Sl := ⟨0, 0, 0, 0, 0, 0, 0, 0, 0, 0⟩
def U64 (a:Int) : Prop := 0 ≤ a ∧ a < 18446744073709551616
def I64 (a:Int) : Prop := -9223372036854775808 ≤ a ∧ a < 9223372036854775808
structure SlR (z : Sl) : Prop where
  k : I64 z.k
  a : U64 z.a
  b : I64 z.b
  r : I64 z.r
  g : I64 z.g
  s : I64 z.s
  m : U64 z.m
  x : U64 z.x
  p : U64 z.p
  d : I64 z.d
def rgt (s : Sl) : Bool := f45_1 s.k s.a s.b s.r s.g s.s s.m
def rightS (s : Sl) : Bool := f34_0 s.k s.a s.b s.r s.g s.s s.m s.x s.p s.d
def wd0 (s : Sl) : Int := f104_2 s.k s.a s.b s.r s.g s.s s.m s.x s.p s.d
def wd1 (s : Sl) : Int := f104_3 s.k s.a s.b s.r s.g s.s s.m s.x s.p s.d
def wd2 (s : Sl) : Int := f104_4 s.k s.a s.b s.r s.g s.s s.m s.x s.p s.d
def wd3 (s : Sl) : Int := f104_5 s.k s.a s.b s.r s.g s.s s.m s.x s.p s.d
theorem link_iff {x : Int} (h : U64 x) : f107_1 x = true ↔ x < 4294967296 ∧ x % 32 = 0 := by
  have e : f125_0 x 5 = decide (x % 32 = 0) := by
    have := aligned_eq (a := x) (n := 5) h.1 h.2 (by omega) (by omega)
    rw [this]
    have : p26 (Int.toNat 5) = 32 := by decide +kernel
    rw [this]
    by_cases hh : x % 32 = 0 <;> simp [hh]
  have : x.fdiv 4294967296 = x / 4294967296 := Int.fdiv_eq_ediv_of_nonneg x (by omega)
  have h1 := h.1
  have h2 := h.2
  simp only [f107_1, e, this, cnd_eq]
  by_cases hx : x < 4294967296
  · have : x / 4294967296 = 0 := by omega
    simp [this, hx]
  · have : ¬ x / 4294967296 = 0 := by omega
    simp [this, hx]
theorem rightS_iff {s : Sl} (h : SlR s) : rightS s = true ↔ rgt s = true ∧ (s.x < 4294967296 ∧ s.x % 32 = 0) ∧ (s.p < 4294967296 ∧ s.p % 32 = 0) ∧ 0 ≤ s.d ∧ s.d ≤ 4096 := by
  have e1 := link_iff h.x
  have e2 := link_iff h.p
  rw [← e1, ← e2]
  simp only [rightS, f34_0, rgt]
  generalize f45_1 s.k s.a s.b s.r s.g s.s s.m = u
  generalize f107_1 s.x = v
  generalize f107_1 s.p = w
  cases u <;> cases v <;> cases w <;> simp [cnd] <;> (by_cases h1 : 0 ≤ s.d <;> by_cases h2 : s.d ≤ 4096 <;> simp [h1, h2])
theorem wd1_eq {s : Sl} (h : rgt s = true) : wd1 s = s.m := (words_at (k := s.k) (a := s.a) (b := s.b) (r := s.r) (g := s.g) (s := s.s) (m := s.m) h).1
theorem wd2_eq {s : Sl} (h : SlR s) (hx : s.x < 4294967296) (hp : s.p < 4294967296) : wd2 s = s.x / 32 + s.p / 32 * 4294967296 := by
  have hx0 := h.x.1
  have hp0 := h.p.1
  have e1 : s.x.fdiv 32 = s.x / 32 := Int.fdiv_eq_ediv_of_nonneg _ (by omega)
  have e2 : s.p.fdiv 32 = s.p / 32 := Int.fdiv_eq_ediv_of_nonneg _ (by omega)
  simp only [wd2, f104_4, e1, e2]
  obtain ⟨x, hx2⟩ : ∃ n : Nat, s.x / 32 = n := ⟨(s.x / 32).toNat, by omega⟩
  obtain ⟨q, hq2⟩ : ∃ n : Nat, s.p / 32 = n := ⟨(s.p / 32).toNat, by omega⟩
  rw [hx2, hq2]
  have hx3 : x < 134217728 := by omega
  have hq3 : q < 134217728 := by omega
  rw [wrap_u64_id (x := (q:Int) * 4294967296) (by omega) (by omega)]
  have e3 : (q:Int) * 4294967296 = ((q * 4294967296:Nat):Int) := by simp
  rw [e3, u64_or_nat x _ (by omega) (by omega)]
  have : x ||| q * 4294967296 = x + q * 4294967296 := by
    have h32 : q * 4294967296 = 2 ^ 32 * q := by omega
    rw [h32, Nat.or_comm, ← Nat.two_pow_add_eq_or_of_lt (by omega), Nat.add_comm]
  rw [this]; simp
theorem links_back {x q : Nat} (hx : x < 134217728) (hq : q < 134217728) : f102_1 0 27 ((x + q * 4294967296:Nat):Int) = x ∧ f102_1 32 27 ((x + q * 4294967296:Nat):Int) = q := by
  have p0 : (2:Nat) ^ (Int.toNat 0) = 1 := by decide
  have p27 : (2:Nat) ^ (Int.toNat 27) = 134217728 := by decide
  have p32 : (2:Nat) ^ (Int.toNat 32) = 4294967296 := by decide
  refine ⟨?_, ?_⟩
  · rw [field_get (by omega) (by decide +kernel) (by omega) (by omega) (by omega) (by omega), p0, p27]; omega
  · rw [field_get (by omega) (by decide +kernel) (by omega) (by omega) (by omega) (by omega), p32, p27]; omega
theorem rgt2 {s : Sl} (h : SlR s) (hr : rgt s = true) : f50_2 s.k s.a s.b s.r s.g s.s s.m = true := by
  have hR := right_eq (k := s.k) (r := s.r) (s := s.s) h.a.1 h.a.2 h.b h.m.1 h.m.2 h.g.2
  exact hR.symm.trans hr
theorem wd_range {s : Sl} (h : SlR s) (hr : rightS s = true) : U64 (wd0 s) ∧ U64 (wd1 s) ∧ U64 (wd2 s) ∧ U64 (wd3 s) := by
  obtain ⟨q1, q2, q3, q4, q5⟩ := (rightS_iff h).1 hr
  have hr2 := rgt2 h q1
  obtain ⟨w1, w2⟩ := word_right h.a.1 h.a.2 hr2 q1
  obtain ⟨hk, hb, hrr, hg, hs, hal, hmod⟩ := right_ranges h.a.1 h.a.2 hr2 q1
  have ha := h.a.1
  refine ⟨?_, by rw [wd1_eq q1]; exact h.m, ?_, ?_⟩
  · have e0 : wd0 s = f164_14 s.k s.a s.b s.r s.g s.s s.m := rfl
    rw [e0, w1]
    unfold wordN U64
    omega
  · have h1 := h.x.1
    have h2 := h.p.1
    rw [wd2_eq h q2.1 q3.1]
    unfold U64
    omega
  · have : wd3 s = IntKind.u64.wrap s.d := rfl
    rw [this, wrap_u64_id (by omega) (by omega)]
    unfold U64
    omega
end Go.Sx.M

namespace Go.Sx.M
open Go Go.Sx Go.Proofs Go.RowKit
set_option maxRecDepth 100000
def pre29 (v : V29) : Prop := U64 v.at_
noncomputable def ldE (M : Mem) (a:Int) : Int := f29_24 ⟨a, M⟩
noncomputable def ld (M : Mem) (a:Int) : Sl := ⟨f29_14 ⟨a, M⟩, f29_15 ⟨a, M⟩, f29_16 ⟨a, M⟩, f29_17 ⟨a, M⟩, f29_18 ⟨a, M⟩, f29_19 ⟨a, M⟩, f29_20 ⟨a, M⟩, f29_21 ⟨a, M⟩, f29_22 ⟨a, M⟩, f29_23 ⟨a, M⟩⟩
theorem wrapR (x:Int) : 0 ≤ IntKind.u64.wrap x ∧ IntKind.u64.wrap x < 18446744073709551616 := by
  rw [wrap_u64]; omega
theorem n29 (v : V29) (h : pre29 v) : (f29 v).ok ∧ (f29 v).get.1 = .tup [.agg [.int .i64 (ld v.M v.at_).k, .int .u64 (ld v.M v.at_).a, .int .i64 (ld v.M v.at_).b, .int .i64 (ld v.M v.at_).r, .int .i64 (ld v.M v.at_).g, .int .i64 (ld v.M v.at_).s, .int .u64 (ld v.M v.at_).m, .int .u64 (ld v.M v.at_).x, .int .u64 (ld v.M v.at_).p, .int .i64 (ld v.M v.at_).d], .int .i64 (ldE v.M v.at_)] ∧ HOws (f29 v).get.2.1 [HO.res v.M] :=
  ⟨⟨fun _ => wrapR _, fun _ => wrapR _, fun _ => wrapR _, fun _ => wrapR _, trivial⟩, rfl, .refl _⟩
noncomputable def f29n (v : V29) : Tr (Fin th.R) := .need (pre29 v) (.leaf (.tup [.agg [.int .i64 (ld v.M v.at_).k, .int .u64 (ld v.M v.at_).a, .int .i64 (ld v.M v.at_).b, .int .i64 (ld v.M v.at_).r, .int .i64 (ld v.M v.at_).g, .int .i64 (ld v.M v.at_).s, .int .u64 (ld v.M v.at_).m, .int .u64 (ld v.M v.at_).x, .int .u64 (ld v.M v.at_).p, .int .i64 (ld v.M v.at_).d], .int .i64 (ldE v.M v.at_)], [.res v.M], []))
theorem s29n : Sound Try.prog th 29 (fnC d29 ofV29 f29n) := fnC_refine s29 fun v h => by
  obtain ⟨hp, _⟩ := h
  obtain ⟨a, b, c⟩ := n29 v hp
  exact ⟨a, b.symm, (qdd29 v).symm, c, by show 1 ≤ 1; decide⟩
noncomputable def nice29n : List (Nat × CF th.R) := (29, lift (fnC d29 ofV29 f29n)) :: niceph
theorem nok29n : NiceOk Try.prog th nice29n := ⟨lift_sound s29n, nokph⟩
set_option maxRecDepth 100000
def slOf (v : V91) : Sl := ⟨v.k, v.a, v.b, v.r, v.g, v.s, v.m, v.x, v.p, v.d⟩
def pre91 (v : V91) : Prop := U64 v.at_ ∧ SlR (slOf v)
noncomputable def stE (M : Mem) (a:Int) (z : Sl) : Int := f91_8 ⟨a, z.k, z.a, z.b, z.r, z.g, z.s, z.m, z.x, z.p, z.d, M⟩
noncomputable def stM (M : Mem) (a:Int) (z : Sl) : Mem := f91_9 ⟨a, z.k, z.a, z.b, z.r, z.g, z.s, z.m, z.x, z.p, z.d, M⟩
theorem n91 (v : V91) (h : pre91 v) : (f91 v).ok ∧ (f91 v).get.1 = .int .i64 (stE v.M v.at_ (slOf v)) ∧ HOws (f91 v).get.2.1 [HO.res (stM v.M v.at_ (slOf v))] := by
  have key : f91_11 v = false → U64 (wd0 (slOf v)) ∧ U64 (wd1 (slOf v)) ∧ U64 (wd2 (slOf v)) ∧ U64 (wd3 (slOf v)) := fun e => by
    refine wd_range h.2 ?_
    have e : (!rightS (slOf v)) = false := e
    simpa using e
  exact ⟨⟨fun _ e => ⟨wrapR _, (key e).1⟩, fun _ e => ⟨wrapR _, (key e).2.1⟩, fun _ e => ⟨wrapR _, (key e).2.2.1⟩, fun _ e => ⟨wrapR _, (key e).2.2.2⟩, trivial⟩, rfl, .refl _⟩
noncomputable def f91n (v : V91) : Tr (Fin th.R) := .need (pre91 v) (.leaf (.int .i64 (stE v.M v.at_ (slOf v)), [.res (stM v.M v.at_ (slOf v))], [0]))
theorem s91n : Sound Try.prog th 91 (fnC d91 ofV91 f91n) := fnC_refine s91 fun v h => by
  obtain ⟨hp, _⟩ := h
  obtain ⟨a, b, c⟩ := n91 v hp
  exact ⟨a, b.symm, (qdd91 v).symm, c, by show 1 ≤ 1; decide⟩
noncomputable def nice91n : List (Nat × CF th.R) := (91, lift (fnC d91 ofV91 f91n)) :: nice29n
theorem nok91n : NiceOk Try.prog th nice91n := ⟨lift_sound s91n, nok29n⟩
set_option maxRecDepth 100000
end Go.Sx.M

namespace Go.Sx.M
open Go Go.Sx
theorem i0 : I64 0 := by unfold I64; omega
theorem u0 : U64 0 := by unfold U64; omega
theorem mrg_ind {P : Mem → Prop} {c : Bool} {M N : Mem} (hM : c = true → P M) (hN : c = false → P N) : P (mrgM c M N) := by
  cases c with
  | true => exact hM rfl
  | false => exact hN rfl
theorem st_size (M : Mem) (a:Int) (z : Sl) : (stM M a z).size = M.size :=
  mrg_ind (P := fun N => N.size = M.size) (fun _ => rfl) fun _ => mrg_ind (P := fun N => N.size = M.size) (fun _ => rfl) fun _ => rfl
noncomputable def tX (M : Mem) (a y:Int) : Mem := mrgM (a == 0) M (stM M a { ld M a with x := y })
noncomputable def tP (M : Mem) (a y:Int) : Mem := mrgM (a == 0) M (stM M a { ld M a with p := y })
noncomputable def tC (M : Mem) (a:Int) (c : Sl) : Mem := mrgM (a == 0) M (stM M a { c with x := (ld M a).x, p := (ld M a).p, d := (ld M a).d })
noncomputable def tD (M : Mem) (a:Int) : Mem := mrgM (a == 0) M (stM M a { ld M a with d := IntKind.i64.wrap ((ld M a).d - 1) })
theorem SlR.setX {z : Sl} (h : SlR z) {y : Int} (hy : U64 y) : SlR { z with x := y } := ⟨h.k, h.a, h.b, h.r, h.g, h.s, h.m, hy, h.p, h.d⟩
theorem SlR.setP {z : Sl} (h : SlR z) {y : Int} (hy : U64 y) : SlR { z with p := y } := ⟨h.k, h.a, h.b, h.r, h.g, h.s, h.m, h.x, hy, h.d⟩
theorem SlR.setD {z : Sl} (h : SlR z) {y : Int} (hy : I64 y) : SlR { z with d := y } := ⟨h.k, h.a, h.b, h.r, h.g, h.s, h.m, h.x, h.p, hy⟩
noncomputable def tieM (M : Mem) (a b:Int) : Mem := tP (tX M a b) b a
def tieF (f a b:Int) : Int := cnd (a == 0) b f
noncomputable def insM (M : Mem) (a b i:Int) (c : Sl) (d:Int) : Mem := tieM (tieM (stM M i { c with x := 0, p := 0, d := d }) a i) i b
def insF (f a b i:Int) : Int := tieF (tieF f a i) i b
theorem SlR.fresh {c : Sl} (h : SlR c) {d : Int} (hd : I64 d) : SlR { c with x := 0, p := 0, d := d } := ⟨h.k, h.a, h.b, h.r, h.g, h.s, h.m, u0, u0, hd⟩
theorem tX_size (M : Mem) (a y:Int) : (tX M a y).size = M.size := mrg_ind (P := fun N => N.size = M.size) (fun _ => rfl) fun _ => st_size _ _ _
theorem tP_size (M : Mem) (a y:Int) : (tP M a y).size = M.size := mrg_ind (P := fun N => N.size = M.size) (fun _ => rfl) fun _ => st_size _ _ _
theorem tC_size (M : Mem) (a:Int) (c : Sl) : (tC M a c).size = M.size := mrg_ind (P := fun N => N.size = M.size) (fun _ => rfl) fun _ => st_size _ _ _
theorem tD_size (M : Mem) (a:Int) : (tD M a).size = M.size := mrg_ind (P := fun N => N.size = M.size) (fun _ => rfl) fun _ => st_size _ _ _
theorem tie_size (M : Mem) (a b:Int) : (tieM M a b).size = M.size := (tP_size _ _ _).trans (tX_size _ _ _)
theorem ins_size (M : Mem) (a b i:Int) (c : Sl) (d:Int) : (insM M a b i c d).size = M.size := (tie_size _ _ _).trans ((tie_size _ _ _).trans (st_size _ _ _))
noncomputable def hdE (M : Mem) (a:Int) : Int := cnd (ldE M a != 0) (ldE M a) (cnd ((ld M a).k == 0) 14 0)
noncomputable def frE (M : Mem) (a:Int) : Int := cnd (ldE M a != 0) (ldE M a) (cnd (a == 0) 12 (cnd ((ld M a).k != 0) 16 0))
theorem cnd_same {α : Type} (c : Bool) (a : α) : cnd c a a = a := by cases c <;> rfl
def mayC (c : Sl) : Int := f178_0 c.k c.a c.b c.r c.g c.s c.m
noncomputable def ftE (M : Mem) (n a:Int) (c : Sl) : Int := cnd (frE M a != 0) (frE M a) (cnd (mayC c != 0) (mayC c) (cnd (decide (n ≥ 65536)) 15 0))
end Go.Sx.M

namespace Go.Sx.M
open Go Go.Sx Go.Proofs Go.RowKit
set_option maxRecDepth 100000
noncomputable def nice132n : List (Nat × CF th.R) := nice91n
theorem nok132n : NiceOk Try.prog th nice132n := nok91n
set_option maxRecDepth 100000
set_option maxRecDepth 100000
noncomputable def nice67n : List (Nat × CF th.R) := nice132n
theorem nok67n : NiceOk Try.prog th nice67n := nok132n
set_option maxRecDepth 100000
set_option maxRecDepth 100000
noncomputable def nice135n : List (Nat × CF th.R) := nice67n
theorem nok135n : NiceOk Try.prog th nice135n := nok67n
set_option maxRecDepth 100000
noncomputable def nice55 : List (Nat × CF th.R) := nice135n
theorem nok55 : NiceOk Try.prog th nice55 := nok135n
set_option maxRecDepth 100000
noncomputable def nice108 : List (Nat × CF th.R) := nice55
theorem nok108 : NiceOk Try.prog th nice108 := nok55
set_option maxRecDepth 100000
set_option maxRecDepth 100000
set_option maxRecDepth 100000
set_option maxRecDepth 100000
set_option maxRecDepth 100000
set_option maxRecDepth 100000
set_option maxRecDepth 100000
set_option maxRecDepth 100000
noncomputable def nice137dn : List (Nat × CF th.R) := nice108
theorem nok137dn : NiceOk Try.prog th nice137dn := nok108
set_option maxRecDepth 100000
set_option maxRecDepth 100000
noncomputable def nice136n : List (Nat × CF th.R) := nice137dn
theorem nok136n : NiceOk Try.prog th nice136n := nok137dn
set_option maxRecDepth 100000
set_option maxRecDepth 100000
noncomputable def nice133n : List (Nat × CF th.R) := nice136n
theorem nok133n : NiceOk Try.prog th nice133n := nok136n
set_option maxRecDepth 100000
set_option maxRecDepth 100000
noncomputable def nice134n : List (Nat × CF th.R) := nice133n
theorem nok134n : NiceOk Try.prog th nice134n := nok133n
set_option maxRecDepth 100000
set_option maxRecDepth 100000
noncomputable def nice59n : List (Nat × CF th.R) := nice134n
theorem nok59n : NiceOk Try.prog th nice59n := nok134n
set_option maxRecDepth 100000
set_option maxRecDepth 100000
set_option maxRecDepth 100000
set_option maxRecDepth 100000
set_option maxRecDepth 100000
set_option maxRecDepth 100000
set_option maxRecDepth 100000
end Go.Sx.M

namespace Go.Sx.M
open Go Go.Sx
structure TS where
  M : Mem
  f : Int
  c : Int
noncomputable def rtE (t : TS) (a:Int) (z : Sl) : Int := cnd (ftE t.M t.c a z != 0) (ftE t.M t.c a z) 0
noncomputable def rtT (t : TS) (a:Int) (z : Sl) : TS := ⟨mrgM (ftE t.M t.c a z != 0) t.M (insM t.M 0 t.f a z 0), cnd (ftE t.M t.c a z != 0) t.f (insF t.f 0 t.f a), cnd (ftE t.M t.c a z != 0) t.c (IntKind.i64.wrap (t.c + 1))⟩
noncomputable def chE (t : TS) (p a:Int) (z : Sl) : Int := cnd (hdE t.M p != 0) (hdE t.M p) (cnd (ftE t.M t.c a z != 0) (ftE t.M t.c a z) (cnd (decide ((ld t.M p).d ≥ 4096)) 42 0))
noncomputable def chT (t : TS) (p a:Int) (z : Sl) : TS :=
  ⟨mrgM (hdE t.M p != 0) t.M (mrgM (ftE t.M t.c a z != 0) t.M (mrgM (decide ((ld t.M p).d ≥ 4096)) t.M (insM t.M p (ld t.M p).x a z (IntKind.i64.wrap ((ld t.M p).d + 1))))),
    cnd (hdE t.M p != 0) t.f (cnd (ftE t.M t.c a z != 0) t.f (cnd (decide ((ld t.M p).d ≥ 4096)) t.f (insF t.f p (ld t.M p).x a))),
    cnd (hdE t.M p != 0) t.c (cnd (ftE t.M t.c a z != 0) t.c (cnd (decide ((ld t.M p).d ≥ 4096)) t.c (IntKind.i64.wrap (t.c + 1))))⟩
noncomputable def seE (t : TS) (a:Int) (z : Sl) : Int := cnd (hdE t.M a != 0) (hdE t.M a) (cnd (mayC z != 0) (mayC z) 0)
noncomputable def seT (t : TS) (a:Int) (z : Sl) : TS := ⟨mrgM (hdE t.M a != 0) t.M (mrgM (mayC z != 0) t.M (tC t.M a z)), t.f, t.c⟩
noncomputable def mvM (t : TS) (a b:Int) : Mem := stM (stM t.M a sl0) b (ld t.M a)
noncomputable def mvE (t : TS) (a b:Int) : Int := cnd (hdE t.M a != 0) (hdE t.M a) (cnd (frE t.M b != 0) (frE t.M b) 0)
noncomputable def mvT (t : TS) (a b:Int) : TS :=
  ⟨mrgM (hdE t.M a != 0) t.M (mrgM (frE t.M b != 0) t.M (tieM (tieM (mvM t a b) (ld t.M a).p b) b (ld t.M a).x)),
    cnd (hdE t.M a != 0) t.f (cnd (frE t.M b != 0) t.f (tieF (tieF t.f (ld t.M a).p b) b (ld t.M a).x)), t.c⟩
theorem sl0_R : SlR sl0 := ⟨i0, u0, i0, i0, i0, i0, u0, u0, u0, i0⟩
noncomputable def swM0 (t : TS) (a b:Int) : Mem := stM (stM t.M a (ld t.M b)) b (ld t.M a)
noncomputable def swM1 (t : TS) (a b:Int) : Mem := tieM (swM0 t a b) (f180_0 (ld t.M a).p a b) b
noncomputable def swM2 (t : TS) (a b:Int) : Mem := tieM (swM1 t a b) b (f180_0 (ld t.M a).x a b)
noncomputable def swM3 (t : TS) (a b:Int) : Mem := tieM (swM2 t a b) (f180_0 (ld t.M b).p a b) a
noncomputable def swM4 (t : TS) (a b:Int) : Mem := tieM (swM3 t a b) a (f180_0 (ld t.M b).x a b)
noncomputable def swF1 (t : TS) (a b:Int) : Int := tieF t.f (f180_0 (ld t.M a).p a b) b
noncomputable def swF2 (t : TS) (a b:Int) : Int := tieF (swF1 t a b) b (f180_0 (ld t.M a).x a b)
noncomputable def swF3 (t : TS) (a b:Int) : Int := tieF (swF2 t a b) (f180_0 (ld t.M b).p a b) a
noncomputable def swF4 (t : TS) (a b:Int) : Int := tieF (swF3 t a b) a (f180_0 (ld t.M b).x a b)
noncomputable def swE (t : TS) (a b:Int) : Int := cnd (hdE t.M a != 0) (hdE t.M a) (cnd (cnd (hdE t.M b != 0) true (a == b)) (hdE t.M b) 0)
noncomputable def swT (t : TS) (a b:Int) : TS :=
  ⟨mrgM (hdE t.M a != 0) t.M (mrgM (cnd (hdE t.M b != 0) true (a == b)) t.M (swM4 t a b)), cnd (hdE t.M a != 0) t.f (cnd (cnd (hdE t.M b != 0) true (a == b)) t.f (swF4 t a b)), t.c⟩
end Go.Sx.M

namespace Go.Sx.M
open Go Go.Sx Go.Proofs Go.RowKit
set_option maxRecDepth 100000
noncomputable def nice109n : List (Nat × CF th.R) := nice59n
theorem nok109n : NiceOk Try.prog th nice109n := nok59n
set_option maxRecDepth 100000
noncomputable def nice56n : List (Nat × CF th.R) := nice109n
theorem nok56n : NiceOk Try.prog th nice56n := nok109n
set_option maxRecDepth 100000
noncomputable def nice130n : List (Nat × CF th.R) := nice56n
theorem nok130n : NiceOk Try.prog th nice130n := nok56n
set_option maxRecDepth 100000
noncomputable def nice94n : List (Nat × CF th.R) := nice130n
theorem nok94n : NiceOk Try.prog th nice94n := nok130n
set_option maxRecDepth 100000
noncomputable def nice61n : List (Nat × CF th.R) := nice94n
theorem nok61n : NiceOk Try.prog th nice61n := nok94n
set_option maxRecDepth 100000
noncomputable def nice131n : List (Nat × CF th.R) := nice61n
theorem nok131n : NiceOk Try.prog th nice131n := nok61n
set_option maxRecDepth 100000
noncomputable def nice60n : List (Nat × CF th.R) := nice131n
theorem nok60n : NiceOk Try.prog th nice60n := nok131n
set_option maxRecDepth 100000
noncomputable def nice32 : List (Nat × CF th.R) := nice60n
theorem nok32 : NiceOk Try.prog th nice32 := nok60n
set_option maxRecDepth 100000
structure V28 where
  at_ : Int
  w0 : Int
  w1 : Int
  w2 : Int
  w3 : Int
def A28 (v : V28) : List SV := [.int .u64 v.at_, .agg [.int .u64 v.w0, .int .u64 v.w1, .int .u64 v.w2, .int .u64 v.w3]]
def H28 (v : V28) : List (HO th.R) := []
def toV28 (v : V28) : List (Vl th.R) := [.i v.at_, .i v.w0, .i v.w1, .i v.w2, .i v.w3]
def ofV28 : List (Vl th.R) → Option V28
  | [.i at_, .i w0, .i w1, .i w2, .i w3] => some ⟨at_, w0, w1, w2, w3⟩
  | _ => none
def d28 : Ft := ⟨[.int .u64, .agg [.int .u64, .int .u64, .int .u64, .int .u64]], []⟩
theorem ok28 : LoopsOk th Try.prog (autoH [] [(5, 5)] [17, 19] [] : Hints th) (bodyOf Try.prog 28) := autoH_ok (bs := [lpAt Try.prog 28 0]) (by kernel_rfl) fun b hb L hL => by
  simp only [List.mem_cons, List.not_mem_nil, or_false] at hb
  rcases hb with rfl
  · have e : lookL [] (firstReg (lpAt Try.prog 28 0)) = (none : Option (St th.R → Out th)) := by kernel_rfl
    rw [e] at hL; cases hL
noncomputable def f28_13 (v : V28) : (Int) := IntKind.u64.wrap (v.at_ + (0:Int))
noncomputable def f28_14 (v : V28) : (Int) := [v.w0, v.w1, v.w2, v.w3].getD (0:Nat) (0:Int)
noncomputable def f28_15 (v : V28) : (Int) := IntKind.u64.wrap (v.at_ + (8:Int))
noncomputable def f28_16 (v : V28) : (Int) := [v.w0, v.w1, v.w2, v.w3].getD (1:Nat) (0:Int)
noncomputable def f28_17 (v : V28) : (Int) := IntKind.u64.wrap (v.at_ + (16:Int))
noncomputable def f28_18 (v : V28) : (Int) := [v.w0, v.w1, v.w2, v.w3].getD (2:Nat) (0:Int)
noncomputable def f28_19 (v : V28) : (Int) := IntKind.u64.wrap (v.at_ + (24:Int))
noncomputable def f28_20 (v : V28) : (Int) := [v.w0, v.w1, v.w2, v.w3].getD (3:Nat) (0:Int)
noncomputable def f28_0 (v : V28) : (Prop) := (0:Int) ≤ (0:Int) ∧ (0:Int) < (4:Int)
noncomputable def f28_1 (v : V28) : (Prop) := (0:Nat) < (4:Nat)
noncomputable def f28_2 (v : V28) : (Prop) := ((0:Int) ≤ f28_13 v ∧ f28_13 v < (18446744073709551616:Int)) ∧ (0:Int) ≤ f28_14 v ∧ f28_14 v < (18446744073709551616:Int)
noncomputable def f28_3 (v : V28) : (Prop) := (0:Int) ≤ (1:Int) ∧ (1:Int) < (4:Int)
noncomputable def f28_4 (v : V28) : (Prop) := (1:Nat) < (4:Nat)
noncomputable def f28_5 (v : V28) : (Prop) := ((0:Int) ≤ f28_15 v ∧ f28_15 v < (18446744073709551616:Int)) ∧ (0:Int) ≤ f28_16 v ∧ f28_16 v < (18446744073709551616:Int)
noncomputable def f28_6 (v : V28) : (Prop) := (0:Int) ≤ (2:Int) ∧ (2:Int) < (4:Int)
noncomputable def f28_7 (v : V28) : (Prop) := (2:Nat) < (4:Nat)
noncomputable def f28_8 (v : V28) : (Prop) := ((0:Int) ≤ f28_17 v ∧ f28_17 v < (18446744073709551616:Int)) ∧ (0:Int) ≤ f28_18 v ∧ f28_18 v < (18446744073709551616:Int)
noncomputable def f28_9 (v : V28) : (Prop) := (0:Int) ≤ (3:Int) ∧ (3:Int) < (4:Int)
noncomputable def f28_10 (v : V28) : (Prop) := (3:Nat) < (4:Nat)
noncomputable def f28_11 (v : V28) : (Prop) := ((0:Int) ≤ f28_19 v ∧ f28_19 v < (18446744073709551616:Int)) ∧ (0:Int) ≤ f28_20 v ∧ f28_20 v < (18446744073709551616:Int)
noncomputable def f28_12 (v : V28) : (Mem) := wrM (wrM (wrM (wrM (newM (65536:Int)) (f28_13 v) (f28_14 v)) (f28_15 v) (f28_16 v)) (f28_17 v) (f28_18 v)) (f28_19 v) (f28_20 v)
theorem n_f28_0 (v : V28) : f28_0 v := by
  unfold f28_0
  (repeat' first | intro _ | apply And.intro) <;> first | rfl | exact absurd (by assumption) (Nat.not_lt_zero _) | exact scpL_rowSet (by rfl) (by rfl) | exact scpL_rowEl (by kernel_rfl) _ | omega | decide
theorem n_f28_1 (v : V28) : f28_1 v := by
  unfold f28_1
  (repeat' first | intro _ | apply And.intro) <;> first | rfl | exact absurd (by assumption) (Nat.not_lt_zero _) | exact scpL_rowSet (by rfl) (by rfl) | exact scpL_rowEl (by kernel_rfl) _ | omega | decide
theorem n_f28_3 (v : V28) : f28_3 v := by
  unfold f28_3
  (repeat' first | intro _ | apply And.intro) <;> first | rfl | exact absurd (by assumption) (Nat.not_lt_zero _) | exact scpL_rowSet (by rfl) (by rfl) | exact scpL_rowEl (by kernel_rfl) _ | omega | decide
theorem n_f28_4 (v : V28) : f28_4 v := by
  unfold f28_4
  (repeat' first | intro _ | apply And.intro) <;> first | rfl | exact absurd (by assumption) (Nat.not_lt_zero _) | exact scpL_rowSet (by rfl) (by rfl) | exact scpL_rowEl (by kernel_rfl) _ | omega | decide
theorem n_f28_6 (v : V28) : f28_6 v := by
  unfold f28_6
  (repeat' first | intro _ | apply And.intro) <;> first | rfl | exact absurd (by assumption) (Nat.not_lt_zero _) | exact scpL_rowSet (by rfl) (by rfl) | exact scpL_rowEl (by kernel_rfl) _ | omega | decide
theorem n_f28_7 (v : V28) : f28_7 v := by
  unfold f28_7
  (repeat' first | intro _ | apply And.intro) <;> first | rfl | exact absurd (by assumption) (Nat.not_lt_zero _) | exact scpL_rowSet (by rfl) (by rfl) | exact scpL_rowEl (by kernel_rfl) _ | omega | decide
theorem n_f28_9 (v : V28) : f28_9 v := by
  unfold f28_9
  (repeat' first | intro _ | apply And.intro) <;> first | rfl | exact absurd (by assumption) (Nat.not_lt_zero _) | exact scpL_rowSet (by rfl) (by rfl) | exact scpL_rowEl (by kernel_rfl) _ | omega | decide
theorem n_f28_10 (v : V28) : f28_10 v := by
  unfold f28_10
  (repeat' first | intro _ | apply And.intro) <;> first | rfl | exact absurd (by assumption) (Nat.not_lt_zero _) | exact scpL_rowSet (by rfl) (by rfl) | exact scpL_rowEl (by kernel_rfl) _ | omega | decide
noncomputable def ff28 (v : V28) : Tr (Fin th.R) := (Tr.need (f28_0 v) (Tr.need (f28_1 v) (Tr.need (f28_2 v) (Tr.need (f28_3 v) (Tr.need (f28_4 v) (Tr.need (f28_5 v) (Tr.need (f28_6 v) (Tr.need (f28_7 v) (Tr.need (f28_8 v) (Tr.need (f28_9 v) (Tr.need (f28_10 v) (Tr.need (f28_11 v) (Tr.leaf ((SV.ptr (1) (0:Nat)), [(HO.cells (34:Nat) [SV.int .u64 (v.w0), SV.int .u64 (v.w1), SV.int .u64 (v.w2), SV.int .u64 (v.w3)]), HO.res (f28_12 v)], [1, 1, 1, 1]))))))))))))))
noncomputable def f28 (v : V28) : Tr (Fin th.R) := (Tr.need (f28_2 v) (Tr.need (f28_5 v) (Tr.need (f28_8 v) (Tr.need (f28_11 v) (Tr.leaf ((SV.ptr (1) (0:Nat)), [(HO.cells (34:Nat) [SV.int .u64 (v.w0), SV.int .u64 (v.w1), SV.int .u64 (v.w2), SV.int .u64 (v.w3)]), HO.res (f28_12 v)], []))))))
noncomputable def C28 : CF th.R := fnC d28 ofV28 (f28 )
theorem q28 (v : V28) : (evFn th Try.prog (auto th Try.prog nice32 [] 20) (autoH [] [(5, 5)] [17, 19] [] : Hints th) 28) (A28 v) (H28 v) = some (ff28 v) := by kernel_rfl
theorem qg28 (v : V28) : ((ff28 v).map (setD [])).get = (f28 v).get := by kernel_rfl
theorem qd28 (v : V28) : allD 0 [] (ff28 v) = true := by kernel_rfl
theorem s28 : Sound Try.prog th 28 (C28 ) := fnC_sound (evFn_sound' (T := th) (P := Try.prog) (tbl := (auto th Try.prog nice32 [] 20)) (auto_sound (nice := nice32) (us := []) nok32 20) (H := (autoH [] [(5, 5)] [17, 19] [] : Hints th)) (k := 28) (fnLoops ok28)) d28 A28 H28 toV28 (by kernel_rfl) (fun v => by kernel_rfl)
  (fun l v h => by
    unfold ofV28 at h
    split at h
    · cases h; rfl
    · cases h)
  [] (fun v => ⟨ff28 v, q28 v, fun h => by
    unfold f28 at h; unfold ff28
    simp only [Tr.ok, n_f28_0, n_f28_1, n_f28_3, n_f28_4, n_f28_6, n_f28_7, n_f28_9, n_f28_10, true_and, and_true, forall_const, implies_true] at h ⊢
    try exact h, qg28 v, qd28 v⟩)
theorem qdd28 (v : V28) : (f28 v).get.2.2 = [] := by
  rw [← qg28, Tr.map_get]; rfl
set_option maxRecDepth 100000
def pre28 (v : V28) : Prop := U64 v.at_ ∧ U64 v.w0 ∧ U64 v.w1 ∧ U64 v.w2 ∧ U64 v.w3
theorem n28 (v : V28) (h : pre28 v) : (f28 v).ok ∧ (f28 v).get.1 = .ptr 1 0 ∧ HOws (f28 v).get.2.1 [HO.cells 34 [.int .u64 v.w0, .int .u64 v.w1, .int .u64 v.w2, .int .u64 v.w3], HO.res (f28_12 v)] := by
  exact ⟨⟨⟨wrapR _, h.2.1⟩, ⟨wrapR _, h.2.2.1⟩, ⟨wrapR _, h.2.2.2.1⟩, ⟨wrapR _, h.2.2.2.2⟩, trivial⟩, rfl, .refl _⟩
noncomputable def f28n (v : V28) : Tr (Fin th.R) := .need (pre28 v) (.leaf (.ptr 1 0, [.cells 34 [.int .u64 v.w0, .int .u64 v.w1, .int .u64 v.w2, .int .u64 v.w3], .res (f28_12 v)], []))
theorem s28n : Sound Try.prog th 28 (fnC d28 ofV28 f28n) := fnC_refine s28 fun v h => by
  obtain ⟨hp, _⟩ := h
  obtain ⟨a, b, c⟩ := n28 v hp
  exact ⟨a, b.symm, (qdd28 v).symm, c, by show 0 ≤ 2; decide⟩
noncomputable def nice28n : List (Nat × CF th.R) := (28, lift (fnC d28 ofV28 f28n)) :: nice32
theorem nok28n : NiceOk Try.prog th nice28n := ⟨lift_sound s28n, nok32⟩
set_option maxRecDepth 100000
structure V27 where
def A27 (v : V27) : List SV := []
def H27 (v : V27) : List (HO th.R) := []
def toV27 (v : V27) : List (Vl th.R) := []
def ofV27 : List (Vl th.R) → Option V27
  | [] => some ⟨⟩
  | _ => none
def d27 : Ft := ⟨[], []⟩
noncomputable def f27_0 (v : V27) : (Prop) := pre28 (V28.mk (0:Int) (0:Int) (0:Int) (0:Int) (0:Int))
noncomputable def f27_1 (v : V27) : (Prop) := false = false → pre91 (V91.mk (128:Int) (8:Int) (4096:Int) (7:Int) (0:Int) (0:Int) (0:Int) (0:Int) (64:Int) (96:Int) (3:Int) (f28_12 (V28.mk (0:Int) (0:Int) (0:Int) (0:Int) (0:Int))))
noncomputable def f27_2 (v : V27) : (Prop) := false = false → pre29 (V29.mk (128:Int) (stM (f28_12 (V28.mk (0:Int) (0:Int) (0:Int) (0:Int) (0:Int))) (128:Int) (slOf (V91.mk (128:Int) (8:Int) (4096:Int) (7:Int) (0:Int) (0:Int) (0:Int) (0:Int) (64:Int) (96:Int) (3:Int) (f28_12 (V28.mk (0:Int) (0:Int) (0:Int) (0:Int) (0:Int)))))))
noncomputable def f27_3 (v : V27) : (Prop) := false = false → (0:Int) ≤ (144:Int) ∧ (144:Int) < (18446744073709551616:Int)
noncomputable def f27_4 (v : V27) : (Prop) := false = false → pre29 (V29.mk (160:Int) (stM (f28_12 (V28.mk (0:Int) (0:Int) (0:Int) (0:Int) (0:Int))) (128:Int) (slOf (V91.mk (128:Int) (8:Int) (4096:Int) (7:Int) (0:Int) (0:Int) (0:Int) (0:Int) (64:Int) (96:Int) (3:Int) (f28_12 (V28.mk (0:Int) (0:Int) (0:Int) (0:Int) (0:Int)))))))
theorem n_f27_3 (v : V27) : f27_3 v := by
  unfold f27_3
  (repeat' first | intro _ | apply And.intro) <;> first | rfl | exact absurd (by assumption) (Nat.not_lt_zero _) | exact scpL_rowSet (by rfl) (by rfl) | exact scpL_rowEl (by kernel_rfl) _ | omega | decide
noncomputable def ff27 (v : V27) : Tr (Fin th.R) := (Tr.need (f27_0 v) (Tr.need (f27_1 v) (Tr.need (f27_2 v) (Tr.need (f27_3 v) (Tr.need (f27_4 v) (Tr.leaf (SV.bool (true), List.nil, List.nil)))))))
noncomputable def f27 (v : V27) : Tr (Fin th.R) := (Tr.need (f27_0 v) (Tr.need (f27_1 v) (Tr.need (f27_2 v) (Tr.need (f27_4 v) (Tr.leaf (SV.bool (true), List.nil, []))))))
noncomputable def C27 : CF th.R := fnC d27 ofV27 (f27 )
theorem q27 (v : V27) : (evFn th Try.prog (auto th Try.prog nice28n [] 20) (autoH [] [] [] [] : Hints th) 27) (A27 v) (H27 v) = some (ff27 v) := by kernel_rfl
theorem qg27 (v : V27) : ((ff27 v).map (setD [])).get = (f27 v).get := by kernel_rfl
theorem qd27 (v : V27) : allD 0 [] (ff27 v) = true := by kernel_rfl
theorem s27 : Sound Try.prog th 27 (C27 ) := fnC_sound (evFn_sound' (T := th) (P := Try.prog) (tbl := (auto th Try.prog nice28n [] 20)) (auto_sound (nice := nice28n) (us := []) nok28n 20) (H := (autoH [] [] [] [] : Hints th)) (k := 27) (fnLoops (LoopsOk_mem (fun _ => rfl) _ fun _ _ _ e => by cases e))) d27 A27 H27 toV27 (by kernel_rfl) (fun v => by kernel_rfl)
  (fun l v h => by
    unfold ofV27 at h
    split at h
    · cases h; rfl
    · cases h)
  [] (fun v => ⟨ff27 v, q27 v, fun h => by
    unfold f27 at h; unfold ff27
    simp only [Tr.ok, n_f27_3, true_and, and_true, forall_const, implies_true] at h ⊢
    try exact h, qg27 v, qd27 v⟩)
theorem qdd27 (v : V27) : (f27 v).get.2.2 = [] := by
  rw [← qg27, Tr.map_get]; rfl
set_option maxRecDepth 100000
def pre27 (v : V27) : Prop := True
theorem n27 (v : V27) (h : pre27 v) : (f27 v).ok ∧ (f27 v).get.1 = .bool true ∧ HOws (f27 v).get.2.1 [] := by
  refine ⟨?_, rfl, .refl _⟩
  (repeat' first | intro _ | apply And.intro | apply SlR.mk) <;> first | trivial | decide
noncomputable def f27n (v : V27) : Tr (Fin th.R) := .need (pre27 v) (.leaf (.bool true, [], []))
theorem s27n : Sound Try.prog th 27 (fnC d27 ofV27 f27n) := fnC_refine s27 fun v h => by
  obtain ⟨hp, _⟩ := h
  obtain ⟨a, b, c⟩ := n27 v hp
  exact ⟨a, b.symm, (qdd27 v).symm, c, by show 0 ≤ 0; decide⟩
noncomputable def nice27n : List (Nat × CF th.R) := (27, lift (fnC d27 ofV27 f27n)) :: nice28n
theorem nok27n : NiceOk Try.prog th nice27n := ⟨lift_sound s27n, nok28n⟩
end Go.Sx.M

namespace Go.Sx
set_option maxRecDepth 10000
open Go.RowKit Go.Maps
/-! ### Words and pages that aren't nought -/
def cntW (W : Int → Int) (p:Int) : Nat := ((List.range 512).filter (fun (i:Nat) => W (p * 4096 + 8 * (i:Int)) != 0)).length
def cntK (W : Int → Int) (p:Int) (k:Nat) : Nat := ((List.range k).filter (fun (i:Nat) => W (p * 4096 + 8 * (i:Int)) != 0)).length
theorem cntK_succ (W : Int → Int) (p:Int) (k:Nat) : cntK W p (k + 1) = cntK W p k + (if W (p * 4096 + 8 * (k:Int)) = 0 then 0 else 1) := by
  unfold cntK
  rw [List.range_succ, List.filter_append, List.length_append]
  congr 1
  by_cases h : W (p * 4096 + 8 * (k:Int)) = 0
  · simp [h]
  · simp [h]
theorem cntK_le (W : Int → Int) (p:Int) (k:Nat) : cntK W p k ≤ k := by
  have := List.length_filter_le (fun (i:Nat) => W (p * 4096 + 8 * (i:Int)) != 0) (List.range k)
  simpa [cntK] using this
theorem cntW_le (W : Int → Int) (p:Int) : cntW W p ≤ 512 := cntK_le W p 512
theorem cntW_zero {W : Int → Int} {p : Int} (h : ∀ a, a / 4096 = p → W a = 0) : cntW W p = 0 := by
  unfold cntW
  have : (List.range 512).filter (fun (i:Nat) => W (p * 4096 + 8 * (i:Int)) != 0) = [] := List.filter_eq_nil_iff.2 fun i hi => by
    have hi := List.mem_range.1 hi
    rw [h _ (by omega)]
    simp
  rw [this]; rfl
theorem cntW_pos {W : Int → Int} {p : Int} : 0 < cntW W p ↔ ∃ i : Nat, i < 512 ∧ W (p * 4096 + 8 * (i:Int)) ≠ 0 := by
  unfold cntW
  rw [List.length_pos_iff_exists_mem]
  constructor
  · rintro ⟨i, hi⟩
    obtain ⟨h1, h2⟩ := List.mem_filter.1 hi
    exact ⟨i, List.mem_range.1 h1, by simpa using h2⟩
  · rintro ⟨i, hi, h⟩
    exact ⟨i, List.mem_filter.2 ⟨List.mem_range.2 hi, by simpa using h⟩⟩
def pagN (M : Mem) : Nat := (M.size / 4096).toNat
def pgN (M : Mem) : List Nat := (List.range (pagN M)).filter (fun p => decide (0 < cntW M.W (p:Int)))
def pgs (M : Mem) : List Int := (pgN M).map fun (p:Nat) => (p:Int) * 4096
theorem filter_one {f g : Nat → Bool} {x : Nat} : ∀ {n : Nat}, x < n → (∀ i, i ≠ x → g i = f i) → f x = false → g x = true → ((List.range n).filter g).Perm ((List.range n).filter f ++ [x])
  | 0, h, _, _, _ => absurd h (Nat.not_lt_zero _)
  | n + 1, h, ho, hf, hg => by
    rw [List.range_succ, List.filter_append, List.filter_append]
    by_cases e : x = n
    · subst e
      have e1 : (List.range x).filter g = (List.range x).filter f := List.filter_congr fun i hi => ho i (by have := List.mem_range.1 hi; omega)
      have e2 : [x].filter g = [x] := by simp [hg]
      have e3 : [x].filter f = [] := by simp [hf]
      rw [e1, e2, e3, List.append_nil]
    · have e2 : [n].filter g = [n].filter f := List.filter_congr fun i hi => ho i (by have := List.mem_singleton.1 hi; omega)
      rw [e2]
      have h1 := filter_one (n := n) (by omega) ho hf hg
      refine (h1.append_right _).trans ?_
      rw [List.append_assoc, List.append_assoc]
      exact (List.perm_append_comm).append_left _
theorem filter_none {f : Nat → Bool} {n : Nat} (h : ∀ i, i < n → f i = false) : (List.range n).filter f = [] := List.filter_eq_nil_iff.2 fun i hi => by rw [h i (List.mem_range.1 hi)]; simp
theorem MemAt.put_sheet {P : Program} {tm ts tk : Nat} {M : Mem} {b mb : Nat} {w w' : World} {D : DataW Unit} {S : Int → Option Nat} (h : MemAt P tm ts tk M b w mb D S) {p : Int} {V : Int → Int} (h0 : 0 ≤ p) (h1 : p * 4096 < M.size)
    (hV : ∀ a, a / 4096 = p → V a ≠ 0 → 0 ≤ a ∧ a < M.size ∧ a % 8 = 0) (hVr : ∀ a, 0 ≤ V a ∧ V a < 18446744073709551616) {s : Nat} (hs : S p = none) (hn : w.heap.size ≤ s)
    (hw : w'.heap[s]? = some (.cells (sheet V p).toArray ts (0, 0))) (hr : ∀ i, i < w.heap.size → i ≠ mb → w'.heap[i]? = w.heap[i]?)
    {n : Nat} (hm : w'.ownsMap P tk ptrElem mb n (D.put (.int .u64 p) (.lit (.int .i64 (s:Nat))))) :
    MemAt P tm ts tk ⟨M.size, fun a => if a / 4096 = p then V a else M.W a⟩ b w' mb (D.put (.int .u64 p) (.lit (.int .i64 (s:Nat)))) (fun q => if q = p then some s else S q) := by
  have hap := h.apart
  have hb : b < w.heap.size := (Array.getElem?_eq_some_iff.1 h.cells).1
  have hmb := h.map.lt
  have hSlt : ∀ p q, S p = some q → q < w.heap.size := fun p q hq => (Array.getElem?_eq_some_iff.1 (h.data p q hq)).1
  have hmap := h.map.isMap
  have W1 : ∀ i, i / 4096 = p → (Mem.mk M.size fun a => if a / 4096 = p then V a else M.W a).W i = V i := fun i hi => if_pos hi
  have W2 : ∀ i, i / 4096 ≠ p → (Mem.mk M.size fun a => if a / 4096 = p then V a else M.W a).W i = M.W i := fun i hi => if_neg hi
  refine ⟨⟨h.ok.lo, h.ok.hi, h.ok.al, fun i hi => ?_, fun i => ?_⟩, by rw [hr b hb hap.1]; exact h.cells, tight hm, fun q hq => ?_, fun q u hq => ?_, fun kl hk => ?_, fun q q2 u hp hq => ?_, ⟨hap.1, fun q u hq => ?_⟩, fun q u hq => ?_, fun q u hq => ?_, fun i hi => ?_⟩
  · by_cases e : i / 4096 = p
    · rw [W1 i e] at hi; exact hV i e hi
    · rw [W2 i e] at hi; exact h.ok.dom i hi
  · by_cases e : i / 4096 = p
    · rw [W1 i e]; exact hVr i
    · rw [W2 i e]; exact h.ok.rng i
  · by_cases e : q = p
    · rw [if_pos e] at hq; cases hq
    · rw [if_neg e] at hq
      rw [Maps.has_put_other (fun k => e (by simpa using k))]
      exact h.no q hq
  · by_cases e : q = p
    · rw [if_pos e] at hq
      cases hq
      subst e
      exact ⟨Maps.has_put_same hmap (by trivial) _, fun z => Maps.atKey_put_same hmap (by trivial) _ z⟩
    · rw [if_neg e] at hq
      have := h.yes q u hq
      refine ⟨by rw [Maps.has_put_other (fun k => e (by simpa using k))]; exact this.1, fun z => ?_⟩
      rw [Maps.atKey_put_other (fun k => e (by simpa using k))]
      exact this.2 z
  · by_cases e : kl = .int .u64 p
    · exact ⟨_, e⟩
    · rw [Maps.has_put_other e] at hk
      exact h.keys kl hk
  · by_cases e : q = p <;> by_cases e2 : q2 = p
    · rw [e, e2]
    · rw [if_pos e] at hp
      rw [if_neg e2] at hq
      have e3 : s = u := Option.some.inj hp
      have := hSlt q2 u hq
      omega
    · rw [if_neg e] at hp
      rw [if_pos e2] at hq
      have e3 : s = u := Option.some.inj hq
      have := hSlt q u hp
      omega
    · rw [if_neg e] at hp
      rw [if_neg e2] at hq
      exact h.inj q q2 u hp hq
  · by_cases e : q = p
    · rw [if_pos e] at hq; cases hq; exact ⟨by omega, by omega⟩
    · rw [if_neg e] at hq; exact hap.2 q u hq
  · by_cases e : q = p
    · subst e; exact ⟨h0, h1⟩
    · rw [if_neg e] at hq; exact h.rng q u hq
  · by_cases e : q = p
    · rw [if_pos e] at hq
      cases hq
      subst e
      rw [hw]
      congr 3
      exact sheet_eq fun i hi => (W1 _ (by omega)).symm
    · rw [if_neg e] at hq
      have hlt := hSlt q u hq
      rw [hr u hlt (hap.2 q u hq).2, h.data q u hq]
      congr 3
      exact sheet_eq fun i hi => (W2 _ (by omega)).symm
  · by_cases e : i / 4096 = p
    · simp only [e, if_true]
      intro e; cases e
    · simp only [e, if_false]
      rw [W2 i e] at hi
      exact h.zero i hi
end Go.Sx

namespace Go.Sx
open Go.RowKit
section
variable {T : Theory} {K : Nat → Prop} {w0 w w' : World} {ρ : Env} {h : List (HO T.R)}
theorem Inv.grow (I : Inv T K w0 ρ h w) (ht : Turns (fun _ => False) w w') : Inv T K w0 ρ h w' :=
  ⟨I.len, I.kept.turns ht fun _ x => x.elim, by
    obtain ⟨F, h1, h2, h3⟩ := I.foot
    exact ⟨F, fun n o l hn hl => OHolds.mono (Pre.refl _) (h1 n o l hn hl) fun i hi => ht.rest i (h3 n i hi).1 id, h2, fun n i hi => ⟨Nat.lt_of_lt_of_le (h3 n i hi).1 ht.size, (h3 n i hi).2⟩⟩⟩
theorem Inv.rebase (I : Inv T K w0 ρ h w) : Inv T K w ρ h w :=
  ⟨I.len, ⟨rfl, rfl, rfl, Nat.le_refl _, fun i hi => Nat.lt_of_lt_of_le (I.kept.old i hi) I.kept.size, fun _ _ => rfl, fun _ => rfl⟩, I.foot⟩
theorem Inv.turned {G : Nat → Prop} (I : Inv T K w0 ρ h w) (ht : Turns G w w') (hG : ∀ i, G i → K i) : Inv T K w' ρ h w' :=
  ⟨I.len, ⟨rfl, rfl, rfl, Nat.le_refl _, fun i hi => Nat.lt_of_lt_of_le (Nat.lt_of_lt_of_le (I.kept.old i hi) I.kept.size) ht.size, fun _ _ => rfl, fun _ => rfl⟩, by
    obtain ⟨F, h1, h2, h3⟩ := I.foot
    exact ⟨F, fun n o l hn hl => OHolds.mono (Pre.refl _) (h1 n o l hn hl) fun i hi => ht.rest i (h3 n i hi).1 fun hg => (h3 n i hi).2 (hG i hg), h2, fun n i hi => ⟨Nat.lt_of_lt_of_le (h3 n i hi).1 ht.size, (h3 n i hi).2⟩⟩⟩
end
theorem Turns.range {H : Type} {P : Program} {k : TypeId} {R : Value → Option (DataW H × List MemPlace)} {w w' : World} {b n cnt : Nat} {D : DataW H} {left : Lit → Bool} (h : w'.ranges P k R b w.heap.size n D left cnt) (hg : w.grownBy w' none) (hs : w'.heap.size = w.heap.size + 1) : Turns (fun _ => False) w w' := by
  obtain ⟨es, clock, since, seen, c0, _, _, _, _, hit, _⟩ := h
  refine ⟨hg.os, hg.tape, hg.output, hg.size, fun i hi _ => hg.block i hi (by simp), fun a => ?_⟩
  by_cases h1 : a.block < w.heap.size
  · exact World.frozen?_of_block (hg.block _ h1 (by simp))
  · have e2 : w.frozen? a = false := by
      simp [World.frozen?, Array.getElem?_eq_none (Nat.le_of_not_lt h1)]
    rw [e2]
    by_cases h2 : a.block = w.heap.size
    · simp [World.frozen?, h2, hit]
    · simp [World.frozen?, Array.getElem?_eq_none (show w'.heap.size ≤ a.block by omega)]
theorem Turns.step {H : Type} {P : Program} {k : TypeId} {R : Value → Option (DataW H × List MemPlace)} {w w' : World} {b r n n' cnt cnt' : Nat} {D D' : DataW H} {left left' : Lit → Bool} (h : w.ranges P k R b r n D left cnt) (h' : w'.ranges P k R b r n' D' left' cnt') (hg : w.grownBy w' (some r)) (hs : w'.heap.size = w.heap.size) : Turns (fun i => i = r) w w' := by
  obtain ⟨es, clock, since, seen, c0, _, _, _, _, hit, _⟩ := h
  obtain ⟨es', clock', since', seen', c0', _, _, _, _, hit', _⟩ := h'
  refine ⟨hg.os, hg.tape, hg.output, hg.size, fun i hi hr => hg.block i hi (fun e => hr (Option.some.inj e)), fun a => ?_⟩
  by_cases h1 : a.block = r
  · simp [World.frozen?, h1, hit, hit']
  · by_cases h2 : a.block < w.heap.size
    · exact World.frozen?_of_block (hg.block _ h2 (fun e => h1 (Option.some.inj e)))
    · simp [World.frozen?, Array.getElem?_eq_none (Nat.le_of_not_lt h2), Array.getElem?_eq_none (show w'.heap.size ≤ a.block by omega)]
end Go.Sx
namespace Go.Sx.M
open Go Go.Sx Go.Proofs Go.RowKit Go.Maps
theorem sheet_cell {w : World} {s : Nat} {W : Int → Int} {p : Int} (hd : w.heap[s]? = some (.cells (sheet W p).toArray 193 (0, 0))) {i : Nat} (hi : i < 512) : w.cell? ⟨s, i, none⟩ = some (.int .u64 (W (p * 4096 + 8 * (i:Int)))) := by
  unfold World.cell?
  simp only [hd, List.getElem?_toArray, sheet_get W p hi]
  rfl
set_option maxRecDepth 100000 in
theorem count_ok {s : Nat} {W : Int → Int} {p : Int} (w : World) (hd : w.heap[s]? = some (.cells (sheet W p).toArray 193 (0, 0))) :
    Calls Try.prog 149 #[.pointer (some ⟨s, 0, none⟩)] w fun e w' => e = .returned (.int .i64 (cntW W p:Nat)) ∧ w' = w := by
  go_enter Try.func149, Try.ntmps149
  go_wp2
  go_loop [3, 7] (fun n i => ∃ k : Nat, k ≤ 512 ∧ n = .int .i64 (cntK W p k:Nat) ∧ i = .int .i64 k) (fun _ i => 512 - (Go.RowKit.intOf i).toNat)
  case atStart => exact ⟨0, by omega, rfl, rfl⟩
  case round =>
    obtain ⟨k, hk, rfl, rfl⟩ := hrel
    have hle := cntK_le W p k
    have hsc := cntK_succ W p k
    by_cases hk2 : k < 512
    · have hc := sheet_cell hd hk2
      generalize hx : W (p * 4096 + 8 * (k:Int)) = x at hc hsc
      go_wp2
      · go_round
        case rel => exact ⟨k + 1, hk2, by rw [hsc]; simp_all, by simp⟩
        case measure => simp [Go.RowKit.intOf]; omega
      · go_round
        case rel => exact ⟨k + 1, hk2, by rw [hsc]; simp_all, by simp⟩
        case measure => simp [Go.RowKit.intOf]; omega
    · have : k = 512 := by omega
      subst this
      go_wp2
      go_ret
      exact ⟨rfl, rfl⟩
end Go.Sx.M

namespace Go.Sx.M
open Go Go.Sx Go.Proofs Go.RowKit Go.Maps
def ptrV (o : Option Nat) : Value := .pointer (o.map fun s => ⟨s, 0, none⟩)
theorem ptrV_inv (v : Value) (y : DataW Unit × List MemPlace) (h : ptrElem v = some y) : ∃ o, v = ptrV o := by
  rcases ptrElem_inv h with ⟨rfl, _⟩ | ⟨b, rfl, _⟩
  · exact ⟨none, rfl⟩
  · exact ⟨some b, rfl⟩
theorem key22_inv (key : Value) (kl : Lit) (h : keyOf Try.prog 22 key = some kl) : ∃ x : Int, key = Value.int .u64 x := by
  obtain ⟨x, rfl, _⟩ := Maps.keyOf_int_inv Try.underlying22 h
  exact ⟨x, rfl⟩
theorem memEntry {w : World} {M : Mem} {b mb : Nat} {D : DataW Unit} {S : Int → Option Nat} (h : MemAt Try.prog 187 193 22 M b w mb D S) {x : Int} {c : Option Nat} {kl : Lit} {y : DataW Unit × List MemPlace}
    (hkey : keyOf Try.prog 22 (Value.int .u64 x) = some kl) (hv : ptrElem (ptrV c) = some y) (hat : ∀ zd, D.atKey kl zd = y.1) :
    kl = .int .u64 x ∧ ∃ s, S x = some s ∧ c = some s ∧ 0 ≤ x ∧ x * 4096 < M.size := by
  obtain ⟨x', ex, rfl, _⟩ := Maps.keyOf_int_inv Try.underlying22 hkey
  cases ex
  refine ⟨rfl, ?_⟩
  cases hs : S x with
  | none =>
    have hh := h.no x hs
    have h1 := hat .nil
    have h2 := hat (.lit (.bool true))
    rw [Maps.atKey_of_not_has hh] at h1 h2
    rw [← h1] at h2
    cases h2
  | some s =>
    obtain ⟨_, ha⟩ := h.yes x s hs
    have h1 := hat .nil
    rw [ha] at h1
    rcases ptrElem_inv hv with ⟨e1, rfl⟩ | ⟨b', e1, rfl⟩
    · cases h1
    · have e2 : s = b' := by
        have h1 : (DataW.lit (.int .i64 (s:Nat)) : DataW Unit) = .lit (.int .i64 (b':Nat)) := h1
        simp only [DataW.lit.injEq, Lit.int.injEq, true_and] at h1
        omega
      subst e2
      obtain ⟨r1, r2⟩ := h.rng x s hs
      refine ⟨s, rfl, ?_, r1, r2⟩
      cases c with
      | none => cases e1
      | some q =>
        have : (⟨q, 0, none⟩ : Addr) = ⟨s, 0, none⟩ := by simpa [ptrV] using e1
        cases this; rfl
end Go.Sx.M

namespace Go.Sx.M
open Go Go.Sx Go.Proofs Go.RowKit Go.Maps
/-! ### Words -/
end Go.Sx.M

namespace Go.Sx.M
open Go Go.Sx Go.Proofs Go.RowKit Go.Maps
theorem agg193 : aggT Try.prog 193 = some true := by kernel_rfl
theorem size193 : sizeT Try.prog 193 = some 512 := by kernel_rfl
theorem wpList_load_eq {P : Program} {w : World} {ops : Array Oper} {rest : List Oper} {d ty t : Nat} {pos : String} {after : Array Edge} {x : Operand} {a : Act} {Q : Exit → Act → World → Prop} {b : Addr} {v : Value}
    (hx : a.eval x = .pointer (some b)) (hl : (loadVar t b).run P w = .ok v w) (hK : wpList P ops Q rest (a.put (some d) v) w) :
    wpList P ops Q ({ dst := some d, op := Op.load t x, type := ty, pos := pos, after := after, guard := none } :: rest) a w := by
  refine wpList_plain rfl fun K' hK' => ?_
  unfold Oper.wp
  simp [execOp, Instr.loadAt, Instr.sureAddr, hx, hl, Result.andThen]
  exact hK' _ _ hK
theorem wpList_store_eq {P : Program} {w w' : World} {ops : Array Oper} {rest : List Oper} {ty t : Nat} {pos : String} {after : Array Edge} {x y : Operand} {a : Act} {Q : Exit → Act → World → Prop} {b : Addr} {v : Value}
    (hx : a.eval x = .pointer (some b)) (hy : a.eval y = v) (hl : (storeVar t b v).run P w = .ok () w') (hK : wpList P ops Q rest (a.put none (.tuple #[])) w') :
    wpList P ops Q ({ dst := none, op := Op.store t x y, type := ty, pos := pos, after := after, guard := none } :: rest) a w := by
  refine wpList_plain rfl fun K' hK' => ?_
  unfold Oper.wp
  simp [execOp, Instr.storeAt, Instr.sureAddr, hx, hy, hl, Result.andThen]
  exact hK' _ _ hK
end Go.Sx.M

namespace Go.Sx.M
open Go Go.Sx Go.Proofs Go.RowKit Go.Maps
theorem memKeep {M : Mem} {b mb : Nat} {w w' : World} {D : DataW Unit} {S : Int → Option Nat} (h : MemAt Try.prog 187 193 22 M b w mb D S) (hk : ∀ i, i = b ∨ i = mb ∨ (∃ p, S p = some i) → w'.heap[i]? = w.heap[i]?) : MemAt Try.prog 187 193 22 M b w' mb D S := by
  refine ⟨h.ok, by rw [hk b (.inl rfl)]; exact h.cells, ?_, h.no, h.yes, h.keys, h.inj, h.apart, h.rng, fun p s hs => by rw [hk s (.inr (.inr ⟨p, hs⟩))]; exact h.data p s hs, h.zero⟩
  obtain ⟨es, clock, e, r⟩ := h.map
  exact ⟨es, clock, by rw [hk mb (.inr (.inl rfl))]; exact e, r⟩
theorem memLt {M : Mem} {b mb : Nat} {w : World} {D : DataW Unit} {S : Int → Option Nat} (h : MemAt Try.prog 187 193 22 M b w mb D S) {i : Nat} (hi : i = b ∨ i = mb ∨ (∃ p, S p = some i)) : i < w.heap.size := by
  rcases hi with rfl | rfl | ⟨p, hs⟩
  · exact (Array.getElem?_eq_some_iff.1 h.cells).1
  · exact h.map.lt
  · exact (Array.getElem?_eq_some_iff.1 (h.data p i hs)).1
theorem memGrow {M : Mem} {b mb : Nat} {w w' : World} {D : DataW Unit} {S : Int → Option Nat} (h : MemAt Try.prog 187 193 22 M b w mb D S) (ht : Turns (fun _ => False) w w') : MemAt Try.prog 187 193 22 M b w' mb D S :=
  memKeep h fun i hi => ht.rest i (memLt h hi) id
theorem Mem_ext {M N : Mem} (h1 : M.size = N.size) (h2 : ∀ a, M.W a = N.W a) : M = N := by
  cases M; cases N
  simp only at h1 h2
  rw [h1, funext h2]
theorem memMade {n : Int} (hn : sizeOk n) {w : World} {b mb : Nat} (hc : w.heap[b]? = some (.cells #[.int .u64 n, .map (some mb)] 187 (0, 0))) (hm : w.ownsMap (H := Unit) Try.prog 22 ptrElem mb 0 (.map [])) (hb : b ≠ mb) :
    MemAt Try.prog 187 193 22 (newM n) b w mb (.map []) (fun _ => none) :=
  ⟨ok_new hn, hc, hm, fun p _ => rfl, fun p s e => (by cases e), fun kl e => (by cases e), fun p q s e => (by cases e), ⟨hb, fun p s e => by cases e⟩, fun p s e => (by cases e), fun p s e => (by cases e), fun a e => absurd rfl e⟩
def copM (M : Mem) (left : Lit → Bool) : Mem := ⟨M.size, fun a => if left (.int .u64 (a / 4096)) = true then 0 else M.W a⟩
theorem copM_end {M : Mem} {left : Lit → Bool} (h : ∀ kl, left kl = false) : copM M left = M := Mem_ext rfl fun a => by
  show (if left (.int .u64 (a / 4096)) = true then 0 else M.W a) = M.W a
  rw [h, if_neg (by simp)]
theorem copM_start {M : Mem} {b mb : Nat} {w : World} {D : DataW Unit} {S : Int → Option Nat} (h : MemAt Try.prog 187 193 22 M b w mb D S) : copM M (Maps.has D) = newM M.size := Mem_ext rfl fun a => by
  show (if Maps.has D (.int .u64 (a / 4096)) = true then 0 else M.W a) = 0
  cases hs : S (a / 4096) with
  | some s => rw [if_pos (h.yes _ s hs).1]
  | none => rw [h.no _ hs, if_neg (by simp), h.word hs]
theorem copM_step {M : Mem} {left : Lit → Bool} {x : Int} : (⟨M.size, fun a => if a / 4096 = x then (fun a => if a / 4096 = x then M.W a else 0) a else (copM M left).W a⟩ : Mem) = copM M (fun z => left z && !z.sameKey (.int .u64 x)) := Mem_ext rfl fun a => by
  show (if a / 4096 = x then (if a / 4096 = x then M.W a else 0) else (if left (.int .u64 (a / 4096)) = true then 0 else M.W a)) = (if (left (.int .u64 (a / 4096)) && !(Lit.int .u64 (a / 4096)).sameKey (.int .u64 x)) = true then 0 else M.W a)
  by_cases e : a / 4096 = x
  · have : (Lit.int .u64 (a / 4096)).sameKey (.int .u64 x) = true := by simp [Lit.sameKey, e]
    rw [if_pos e, if_pos e, this]
    simp
  · have : (Lit.int .u64 (a / 4096)).sameKey (.int .u64 x) = false := by simp [Lit.sameKey, e]
    rw [if_neg e, this]
    simp
def memNew (w w' : World) (M : Mem) (b:Nat) : Prop := ∃ mb D S, MemAt Try.prog 187 193 22 M b w' mb D S ∧ w.heap.size ≤ b ∧ w.heap.size ≤ mb ∧ ∀ p s, S p = some s → w.heap.size ≤ s
theorem rangesKeep {H : Type} {P : Program} {k : TypeId} {R : Value → Option (DataW H × List MemPlace)} {w w' : World} {b r n cnt : Nat} {D : DataW H} {left : Lit → Bool} (h : w.ranges P k R b r n D left cnt) (e1 : w'.heap[b]? = w.heap[b]?) (e2 : w'.heap[r]? = w.heap[r]?) : w'.ranges P k R b r n D left cnt := by
  obtain ⟨es, clock, since, seen, c0, hb, F, h1, h2, hit, rest⟩ := h
  exact ⟨es, clock, since, seen, c0, by rw [e1]; exact hb, F, h1, h2, by rw [e2]; exact hit, rest⟩
theorem load_sheet {w : World} {s : Nat} {W : Int → Int} {p : Int} (hd : w.heap[s]? = some (.cells (sheet W p).toArray 193 (0, 0))) : (loadVar 193 ⟨s, 0, none⟩).run Try.prog w = .ok (.agg (sheet W p).toArray) w := by
  have e : ((sheet W p).drop 0).take 512 = sheet W p := by
    rw [List.drop_zero, List.take_of_length_le (by rw [sheet_length]; exact Nat.le_refl _)]
  have := run_loadVar_agg (P := Try.prog) (t := 193) (o := 0) (s := 512) agg193 size193 hd (by rw [e, sheet_length])
  rw [e] at this
  exact this
theorem sheet_one (W : Int → Int) (p:Int) : ∀ v ∈ sheet W p, v.oneCell' = true := by
  intro v hv
  obtain ⟨i, _, rfl⟩ := List.mem_map.1 hv
  rfl
theorem store_sheet {w : World} {zs : Array Value} (hz : zs.size = 512) {W : Int → Int} {p : Int} :
    (storeVar 193 ⟨w.heap.size, 0, none⟩ (.agg (sheet W p).toArray)).run Try.prog (w.alloc (.cells zs 193)) = .ok () ((w.alloc (.cells zs 193)).setRow w.heap.size (sheet W p).toArray) ∧
    ((w.alloc (.cells zs 193)).setRow w.heap.size (sheet W p).toArray).heap[w.heap.size]? = some (.cells (sheet W p).toArray 193 (0, 0)) ∧ Turns (fun _ => False) w ((w.alloc (.cells zs 193)).setRow w.heap.size (sheet W p).toArray)
    ∧ ((w.alloc (.cells zs 193)).setRow w.heap.size (sheet W p).toArray).heap.size = w.heap.size + 1 := by
  have hn : (w.alloc (.cells zs 193)).heap[w.heap.size]? = some (.cells zs.toList.toArray 193 (0, 0)) := (MapKept.heap_alloc _ _).1
  have hsz : (w.alloc (.cells zs 193)).heap.size = w.heap.size + 1 := Array.size_push ..
  refine ⟨?_, ?_, ?_, ?_⟩
  · have hl : zs.toList.length = 512 := by simpa using hz
    have := run_storeVar (P := Try.prog) (t := 193) (o := 0) (s := 512) (v := .agg (sheet W p).toArray) size193 (by show (sheet W p).toArray.size = 512; simp [sheet_length]) hn (by intro x hx; exact sheet_one W p x (by simpa [Value.cells] using hx)) (by show 0 + (sheet W p).toArray.size ≤ _; simp [sheet_length, hl])
    rw [this]
    have e : (zs.toList.take 0 ++ (Value.agg (sheet W p).toArray).cells.toList ++ zs.toList.drop (0 + (Value.agg (sheet W p).toArray).cells.toList.length)) = sheet W p := by
      have e1 : (Value.agg (sheet W p).toArray).cells.toList = sheet W p := by simp [Value.cells]
      rw [e1, List.take_zero, List.nil_append, List.drop_of_length_le (by rw [hl, sheet_length]; omega), List.append_nil]
    rw [e]
  · exact setRow_heap _ _ _ _ _ _ hn
  · have h1 : Turns (fun i => i = w.heap.size) w (w.alloc (.cells zs 193)) := Turns.alloc _ _ _ _
    exact (h1.trans (Turns.setRow _ _ _ rfl)).mono fun i hi e => by omega
  · rw [setRow_size, hsz]
set_option maxRecDepth 100000 in
theorem copy_ok {M : Mem} {b mb : Nat} {D : DataW Unit} {S : Int → Option Nat} (w : World) (h : MemAt Try.prog 187 193 22 M b w mb D S) :
    Calls Try.prog 78 #[.pointer (some ⟨b, 0, none⟩)] w fun e w' => ∃ b', e = .returned (.pointer (some ⟨b', 0, none⟩)) ∧ memNew w w' M b' ∧ Turns (fun _ => False) w w' := by
  have c0 : w.cell? ⟨b, 0, none⟩ = some (.int .u64 M.size) := by simp [World.cell?, h.cells]
  have c1 : w.cell? ⟨b, 1, none⟩ = some (.map (some mb)) := by simp [World.cell?, h.cells]
  have hown := h.map
  generalize hnn : Maps.size D = nn at hown
  have hmm := @run_makeMap Try.prog
  have hsz : sizeOk M.size := ⟨h.ok.lo, h.ok.hi, h.ok.al⟩
  have hs1 : (w.alloc (.map #[] 0)).heap.size = w.heap.size + 1 := Array.size_push ..
  have hs2 : ((w.alloc (.map #[] 0)).alloc (.cells #[.int .u64 M.size, .map (some w.heap.size)] 187)).heap.size = w.heap.size + 2 := by
    show (Array.push _ _).size = _
    rw [Array.size_push, hs1]
  have hM1 : MemAt Try.prog 187 193 22 (newM M.size) (w.heap.size + 1) ((w.alloc (.map #[] 0)).alloc (.cells #[.int .u64 M.size, .map (some w.heap.size)] 187)) w.heap.size (.map []) (fun _ => none) := by
    refine memMade hsz ?_ ((World.ownsMap_made w Try.prog 22 ptrElem).alloc _) (by omega)
    have := (MapKept.heap_alloc (w.alloc (.map #[] 0)) (.cells #[.int .u64 M.size, .map (some w.heap.size)] 187)).1
    rw [hs1] at this
    exact this
  have ht1 : Turns (fun _ => False) w ((w.alloc (.map #[] 0)).alloc (.cells #[.int .u64 M.size, .map (some w.heap.size)] 187)) := by
    refine ⟨rfl, rfl, rfl, by omega, fun i hi _ => ?_, fun c => ?_⟩
    · rw [Below.heap_alloc _ _ _ (by omega), Below.heap_alloc _ _ _ hi]
    · rw [frozen?_alloc_cells, frozen?_alloc_map]
  have c1' : ((w.alloc (.map #[] 0)).alloc (.cells #[.int .u64 M.size, .map (some w.heap.size)] 187)).cell? ⟨b, 1, none⟩ = some (.map (some mb)) := by
    have := (memGrow h ht1).cells
    simp [World.cell?, this]
  go_enter Try.func78, Try.ntmps78
  go_wp2_with (first
    | (at_range; refine wpList_range_own _ rfl _ 185 rfl 22 190 law22 Try.underlying185 ptrElem mb nn D rfl ((hown.alloc _).alloc _) ?_; intro w0 hrg0 hg0 hs0)
    | go_in)
  go_frame
  have ht0 := Turns.range hrg0 hg0 hs0
  rw [hs2] at hrg0 hs0
  rw [hs2]
  have hM0 := memGrow hM1 ht0
  go_loopw [4, 5, 6] (fun _ _ _ wr => ∃ (left : Lit → Bool) (cnt:Nat) (D' : DataW Unit) (S' : Int → Option Nat), wr.ranges Try.prog 22 ptrElem mb (w.heap.size + 2) nn D left cnt ∧ MemAt Try.prog 187 193 22 (copM M left) (w.heap.size + 1) wr w.heap.size D' S' ∧ (∀ p s, S' p = some s → left (.int .u64 p) = false ∧ w.heap.size + 2 < s) ∧ Turns (fun _ => False) w wr) (fun _ _ _ wr => wr.rangeLeft mb (w.heap.size + 2))
  case atStart => exact ⟨_, _, _, _, hrg0, by rw [copM_start h]; exact hM0, fun p s e => (by cases e), ht1.trans ht0⟩
  case round =>
    obtain ⟨left, cnt, D', S', hrg, hM, hS, ht⟩ := hrel
    go_wp2_with (first
      | (at_next; refine wpList_next_ranges _ rfl _ rfl 22 law22 ptrElem (Value.int .u64) ptrV key22_inv ptrV_inv mb (w.heap.size + 2) nn D left cnt rfl hrg ?_ ?_)
      | go_in)
    · intro hc0 hl0
      go_wp2
      go_ret
      rw [copM_end hl0] at hM
      exact ⟨_, rfl, ⟨w.heap.size, D', S', hM, by omega, by omega, fun p s e => by have := (hS p s e).2; omega⟩, ht⟩
    · intro x c kl yd yp w2 cnt2 hkey hlk hv hat hrg2 hlt hg2 hs2' hen
      obtain ⟨rfl, s, hs, rfl, x0, x1⟩ := memEntry h hkey hv hat
      have hstep := Turns.step hrg hrg2 hg2 hs2'
      have ht2 : Turns (fun _ => False) w w2 := by
        have := (ht.mono (G := fun i => i = w.heap.size + 2) (fun _ _ h => h.elim)).trans hstep
        exact this.mono fun i hi e => by omega
      have hslt : s < w.heap.size := memLt h (.inr (.inr ⟨x, hs⟩))
      have hmlt : mb < w.heap.size := memLt h (.inr (.inl rfl))
      have hd2 : w2.heap[s]? = some (.cells (sheet M.W x).toArray 193 (0, 0)) := (ht2.rest s hslt id).trans (h.data x s hs)
      have hM2 : MemAt Try.prog 187 193 22 (copM M left) (w.heap.size + 1) w2 w.heap.size D' S' := memKeep hM fun i hi => hstep.rest i (memLt hM hi) (by
        rcases hi with rfl | rfl | ⟨p, e⟩
        · omega
        · omega
        · have := (hS p i e).2; omega)
      have hsx : S' x = none := by
        cases e : S' x with
        | none => rfl
        | some q => rw [(hS x q e).1] at hlk; cases hlk
      have hld := load_sheet hd2
      obtain ⟨zs, hal, hzn, hzset⟩ := sheet0
      have hzs : zs.size = 512 := by
        have := congrArg Array.size (hzset 0 (.int .u64 0))
        simpa using this
      obtain ⟨hst, hq, ht3, hsz3⟩ := store_sheet (w := w2) hzs (W := M.W) (p := x)
      have hM3 := memGrow hM2 ht3
      have hm3 := hM3.map
      have hnb : Maps.size D' < maxLen := by
        have := hM3.small law22
        unfold maxLen; omega
      have c3 : ((w2.alloc (.cells zs 193)).setRow w2.heap.size (sheet M.W x).toArray).cell? ⟨w.heap.size + 1, 1, none⟩ = some (.map (some w.heap.size)) := by
        have := hM3.cells
        simp [World.cell?, this]
      have hw2 : w.heap.size + 2 < w2.heap.size := by
        obtain ⟨_, _, _, _, _, _, _, _, _, hit, _⟩ := hrg2
        exact (Array.getElem?_eq_some_iff.1 hit).1
      have r3a := ht3.rest mb (by omega) id
      have r3b := ht3.rest (w.heap.size + 2) hw2 id
      generalize hN3 : (w2.alloc (.cells zs 193)).setRow w2.heap.size (sheet M.W x).toArray = w3 at *
      generalize hnd : Maps.size D' = nd at hm3 hnb
      generalize hsv : (sheet M.W x).toArray = sv at hld hst hq
      clear hd2 hN3 c1'
      simp only [ptrV, Option.map] at hen
      clear hs2'
      go_wp2_with (first
        | (with_reducible refine wpList_load_eq (b := ⟨s, 0, none⟩) rfl hld ?_)
        | (with_reducible refine wpList_alloc193 hal ?_)
        | (refine wpList_store_eq (t := 193) (b := ⟨w2.heap.size, 0, none⟩) (v := .agg sv) (w' := w3) ?_ ?_ hst ?_; rfl; rfl)
        | (at_mapUpdate; go_loud (refine wpList_mapUpdate_in _ rfl _ _ _ 185 rfl 22 190 law22 Try.underlying185 _ w.heap.size nd D' rfl hm3 hnb _ _ _ rfl rfl hkey _ [] rfl ?_); intro w4 hown4 hturn4)
        | go_in)
      have hsz23 : w2.heap.size < w3.heap.size := (Array.getElem?_eq_some_iff.1 hq).1
      have t34 : Turns (fun i => i = w.heap.size) w3 w4 := ⟨hturn4.grown.os, hturn4.grown.tape, hturn4.grown.output, hturn4.grown.size, fun i hi hne => hturn4.grown.block i hi (by simpa using hne), fun c => hturn4.frozen c⟩
      have hq4 : w4.heap[w2.heap.size]? = some (.cells (sheet (fun a => if a / 4096 = x then M.W a else 0) x).toArray 193 (0, 0)) := by
        rw [t34.rest _ hsz23 (by omega), hq, ← hsv]
        congr 3
        exact sheet_eq fun i hi => (if_pos (by omega)).symm
      have hr4 : ∀ i, i < w2.heap.size → i ≠ w.heap.size → w4.heap[i]? = w2.heap[i]? := fun i hi hne => (t34.rest i (by omega) hne).trans (ht3.rest i hi id)
      have hMn := MemAt.put_sheet hM2 (V := fun a => if a / 4096 = x then M.W a else 0) x0 x1 (fun a ha hne => h.ok.dom a (by rw [if_pos ha] at hne; exact hne)) (fun a => by
        by_cases e : a / 4096 = x
        · rw [if_pos e]; exact h.ok.rng a
        · rw [if_neg e]; omega) hsx (Nat.le_refl _) hq4 hr4 hown4
      have hMn : MemAt Try.prog 187 193 22 (⟨M.size, fun a => if a / 4096 = x then (fun a => if a / 4096 = x then M.W a else 0) a else (copM M left).W a⟩ : Mem) (w.heap.size + 1) w4 w.heap.size _ _ := hMn
      rw [copM_step] at hMn
      have ht4 : Turns (fun _ => False) w w4 := by
        have := ((ht2.trans ht3).mono (G := fun i => i = w.heap.size) (fun _ _ h => h.elim)).trans t34
        exact this.mono fun i hi e => by omega
      have hrg4 := rangesKeep hrg2 (hr4 mb (by omega) (by omega)) (hr4 _ hw2 (by omega))
      go_frame
      go_roundw
      case rel => exact ⟨_, cnt2, _, _, hrg4, hMn, fun p q e => by
        have e : (if p = x then some w2.heap.size else S' p) = some q := e
        by_cases ep : p = x
        · rw [if_pos ep] at e
          cases e
          refine ⟨?_, hw2⟩
          simp [Lit.sameKey, ep]
        · rw [if_neg ep] at e
          have := hS p q e
          exact ⟨by rw [this.1]; rfl, this.2⟩, ht4⟩
      case measure => rw [hrg4.left_eq, hrg.left_eq]; exact hlt
end Go.Sx.M

namespace Go.Sx.M
open Go Go.Sx Go.Proofs Go.RowKit Go.Maps
/-! ### Copy -/
structure V78 where
  M : th.R
def A78 (v : V78) : List SV := [.ptr 0 0]
def H78 (v : V78) : List (HO th.R) := [.res v.M]
def toV78 (v : V78) : List (Vl th.R) := [.r v.M]
def ofV78 : List (Vl th.R) → Option V78
  | [.r M] => some ⟨M⟩
  | _ => none
def d78 : Ft := ⟨[.ptr 0 0], [.res]⟩
noncomputable def f78 (v : V78) : Tr (Fin th.R) := .leaf (.ptr 1 0, [.res v.M, .res v.M], [])
theorem s78 : Sound Try.prog th 78 (fnC d78 ofV78 f78) := by
  refine fnC_direct (T := th) d78 A78 H78 toV78 (by kernel_rfl) (fun v => by kernel_rfl) ?_ ?_ (fun v _ => by show 1 ≤ 2; decide) (fun v _ n hn _ => ?_)
  · intro l v h
    unfold ofV78 at h
    split at h
    · cases h; rfl
    · cases h
  · intro v hok K w0 ρ w vargs I hr
    obtain ⟨x, xs, rfl, ⟨l, hl, rfl⟩, hxs⟩ := hr
    have hxs : xs = [] := hxs
    subst hxs
    obtain ⟨mb, D, S, h0, h, c0, c1⟩ := open_mem I hl
    rw [show l.off + 0 = 0 by omega]
    refine (copy_ok w h).mono ?_
    rintro e w' ⟨b', rfl, ⟨mb', D', S', h', g1, g2, g3⟩, ht⟩
    have I' := I.news ⟨b', 0, false, 0⟩ (.res v.M) (fun i => i = b' ∨ i = mb' ∨ ∃ p, S' p = some i) ht (fun i hi => ⟨by
      rcases hi with rfl | rfl | ⟨p, e⟩
      · exact g1
      · exact g2
      · exact g3 p i e, memLt h' hi⟩) ⟨rfl, mb', D', S', h', fun i => Iff.rfl⟩
    have hlen : ρ.length = 1 := I.len
    refine ⟨_, _, rfl, ⟨_, rfl⟩, I', ⟨b', 0, false, 0⟩, ?_, rfl⟩
    rw [List.getElem?_append_right (by omega), hlen]; rfl
  · have hn : n < 1 := hn
    have : n = 0 := by omega
    subst this
    rfl
end Go.Sx.M

namespace Go.Sx.M
open Go Go.Sx Go.Proofs Go.RowKit
set_option maxRecDepth 100000
structure V219 where
  x : Int
def A219 (v : V219) : List SV := [.int .u64 v.x]
def H219 (v : V219) : List (HO th.R) := []
def toV219 (v : V219) : List (Vl th.R) := [.i v.x]
def ofV219 : List (Vl th.R) → Option V219
  | [.i x] => some ⟨x⟩
  | _ => none
def d219 : Ft := ⟨[.int .u64], []⟩
noncomputable def f219_0 (v : V219) : (Bool) := v.x != v.x
noncomputable def ff219 (v : V219) : Tr (Fin th.R) := (Tr.leaf (SV.bool (f219_0 v), List.nil, List.nil))
noncomputable def f219 (v : V219) : Tr (Fin th.R) := (Tr.leaf (SV.bool (f219_0 v), List.nil, []))
noncomputable def C219 : CF th.R := fnC d219 ofV219 (f219 )
theorem q219 (v : V219) : (evFn th Try.prog (auto th Try.prog niceph [] 20) (autoH [] [] [] [] : Hints th) 219) (A219 v) (H219 v) = some (ff219 v) := by kernel_rfl
theorem qg219 (v : V219) : ((ff219 v).map (setD [])).get = (f219 v).get := by kernel_rfl
theorem qd219 (v : V219) : allD 0 [] (ff219 v) = true := by kernel_rfl
theorem s219 : Sound Try.prog th 219 (C219 ) := fnC_sound (evFn_sound' (T := th) (P := Try.prog) (tbl := (auto th Try.prog niceph [] 20)) (auto_sound (nice := niceph) (us := []) nokph 20) (H := (autoH [] [] [] [] : Hints th)) (k := 219) (fnLoops (LoopsOk_mem (fun _ => rfl) _ fun _ _ _ e => by cases e))) d219 A219 H219 toV219 (by kernel_rfl) (fun v => by kernel_rfl)
  (fun l v h => by
    unfold ofV219 at h
    split at h
    · cases h; rfl
    · cases h)
  [] (fun v => ⟨ff219 v, q219 v, id, qg219 v, qd219 v⟩)
noncomputable def nice219 : List (Nat × CF th.R) := (219, lift C219) :: niceph
theorem nok219 : NiceOk Try.prog th nice219 := ⟨lift_sound s219, nokph⟩
set_option maxRecDepth 100000
structure V204 where
  x : Int
  y : Int
def A204 (v : V204) : List SV := [.int .u64 v.x, .int .u64 v.y]
def H204 (v : V204) : List (HO th.R) := []
def toV204 (v : V204) : List (Vl th.R) := [.i v.x, .i v.y]
def ofV204 : List (Vl th.R) → Option V204
  | [.i x, .i y] => some ⟨x, y⟩
  | _ => none
def d204 : Ft := ⟨[.int .u64, .int .u64], []⟩
noncomputable def f204_0 (v : V204) : (Bool) := cnd (cnd (f219_0 (V219.mk v.x)) (!f219_0 (V219.mk v.y)) false) true (decide (v.x < v.y))
noncomputable def ff204 (v : V204) : Tr (Fin th.R) := (Tr.leaf (SV.bool (f204_0 v), List.nil, List.nil))
noncomputable def f204 (v : V204) : Tr (Fin th.R) := (Tr.leaf (SV.bool (f204_0 v), List.nil, []))
noncomputable def C204 : CF th.R := fnC d204 ofV204 (f204 )
theorem q204 (v : V204) : (evFn th Try.prog (auto th Try.prog nice219 [] 20) (autoH [] [] [] [] : Hints th) 204) (A204 v) (H204 v) = some (ff204 v) := by kernel_rfl
theorem qg204 (v : V204) : ((ff204 v).map (setD [])).get = (f204 v).get := by kernel_rfl
theorem qd204 (v : V204) : allD 0 [] (ff204 v) = true := by kernel_rfl
theorem s204 : Sound Try.prog th 204 (C204 ) := fnC_sound (evFn_sound' (T := th) (P := Try.prog) (tbl := (auto th Try.prog nice219 [] 20)) (auto_sound (nice := nice219) (us := []) nok219 20) (H := (autoH [] [] [] [] : Hints th)) (k := 204) (fnLoops (LoopsOk_mem (fun _ => rfl) _ fun _ _ _ e => by cases e))) d204 A204 H204 toV204 (by kernel_rfl) (fun v => by kernel_rfl)
  (fun l v h => by
    unfold ofV204 at h
    split at h
    · cases h; rfl
    · cases h)
  [] (fun v => ⟨ff204 v, q204 v, id, qg204 v, qd204 v⟩)
theorem qdd204 (v : V204) : (f204 v).get.2.2 = [] := by
  rw [← qg204, Tr.map_get]; rfl
theorem cnd_id (c : Bool) : cnd c true false = c := by cases c <;> rfl
theorem wi {x : Int} (h1 : -9223372036854775808 ≤ x) (h2 : x < 9223372036854775808) : IntKind.i64.wrap x = x := wrap_i64 h1 h2
theorem LT.post {R S : Type} [Inhabited S] {f : S → Tr (Rs R S)} (V Q : S → Prop) (μ : S → Nat)
    (h : ∀ s, V s → (f s).ok ∧ (((∃ ex sl hp, (f s).get = .out ex sl hp) ∧ Q s) ∨ ∃ s', (f s).get = .on s' ∧ V s' ∧ μ s' < μ s)) {s : S} (hs : V s) : LT f s ∧ Q (lastS f s) := by
  generalize hm : μ s = m
  induction m using Nat.strongRecOn generalizing s with
  | ind m ih =>
    obtain ⟨h1, ⟨⟨ex, sl, hp, h2⟩, h5⟩ | ⟨s', h2, h3, h4⟩⟩ := h s hs
    · exact ⟨.out h1 h2, by rw [lastS_out h2]; exact h5⟩
    · obtain ⟨a, b⟩ := ih (μ s') (by omega) h3 rfl
      exact ⟨.on h1 h2 a, by rw [lastS_on h2]; exact b⟩
structure Nd where
  t : Int
  k : Int
  a : Int
  b : Int
  r : Int
  g : Int
  s : Int
  m : Int
  d : Int
deriving DecidableEq
def nd0 : Nd := ⟨0, 0, 0, 0, 0, 0, 0, 0, 0⟩
def ndC (x : Nd) : List SV := [.int .u64 x.t, .int .i64 x.k, .int .u64 x.a, .int .i64 x.b, .int .i64 x.r, .int .i64 x.g, .int .i64 x.s, .int .u64 x.m, .int .i64 x.d]
def nds (f : Nat → Nd) (L:Nat) : List Nd := (List.range L).map f
def gN (l : List Nd) (j:Nat) : Nd := l.getD j nd0
theorem nds_len (f : Nat → Nd) (L:Nat) : (nds f L).length = L := by simp [nds]
theorem nds_get {f : Nat → Nd} {L j : Nat} (h : j < L) : (nds f L)[j]? = some (f j) := by simp [nds, List.getElem?_map, List.getElem?_range h]
theorem nds_gN (l : List Nd) : nds (gN l) l.length = l := by
  apply List.ext_getElem?
  intro j
  by_cases h : j < l.length
  · rw [nds_get h]; simp [gN, List.getD, List.getElem?_eq_getElem h]
  · rw [List.getElem?_eq_none (by rw [nds_len]; omega), List.getElem?_eq_none (by omega)]
def fnd (l : List Nd) (a:Int) : Int := match l.findIdx? (fun x => x.t == a) with
  | some i => (i:Int)
  | none => -1
theorem fnd_at {f : Nat → Nd} {L i : Nat} {a : Int} (h1 : i < L) (h2 : (f i).t = a) (h3 : ∀ j, j < i → (f j).t ≠ a) : fnd (nds f L) a = i := by
  have : (nds f L).findIdx? (fun x => x.t == a) = some i := by
    rw [List.findIdx?_eq_some_iff_getElem]
    refine ⟨by rw [nds_len]; exact h1, by simp [nds, h2], fun j hj => ?_⟩
    have := h3 j hj
    simp [nds, this]
  rw [fnd, this]
theorem fnd_none {f : Nat → Nd} {L : Nat} {a : Int} (h3 : ∀ j, j < L → (f j).t ≠ a) : fnd (nds f L) a = -1 := by
  have : (nds f L).findIdx? (fun x => x.t == a) = none := by
    rw [List.findIdx?_eq_none_iff]
    intro x hx
    simp only [nds, List.mem_map, List.mem_range] at hx
    obtain ⟨j, hj, rfl⟩ := hx
    have := h3 j hj
    simp [this]
  rw [fnd, this]
theorem fnd_cases (f : Nat → Nd) (L:Nat) (a:Int) : (∃ i : Nat, i < L ∧ (f i).t = a ∧ (∀ j, j < i → (f j).t ≠ a) ∧ fnd (nds f L) a = i) ∨ ((∀ j, j < L → (f j).t ≠ a) ∧ fnd (nds f L) a = -1) := by
  by_cases h : ∃ i, i < L ∧ (f i).t = a
  · have hx : ∃ i, i < L ∧ (f i).t = a ∧ ∀ j, j < i → (f j).t ≠ a := by
      obtain ⟨i, h1, h2⟩ := h
      induction i using Nat.strongRecOn with
      | ind i ih =>
        by_cases hj : ∃ j, j < i ∧ (f j).t = a
        · obtain ⟨j, k1, k2⟩ := hj
          exact ih j k1 (by omega) k2
        · exact ⟨i, h1, h2, fun j k1 k2 => hj ⟨j, k1, k2⟩⟩
    obtain ⟨i, h1, h2, h3⟩ := hx
    exact .inl ⟨i, h1, h2, h3, fnd_at h1 h2 h3⟩
  · have h3 : ∀ j, j < L → (f j).t ≠ a := fun j k1 k2 => h ⟨j, k1, k2⟩
    exact .inr ⟨h3, fnd_none h3⟩
def putN (l : List Nd) (i:Nat) (x : Nd) : List Nd := l.take i ++ x :: l.drop i
def rowN {R : Type} (l : List Nd) : HO R := .row 100 9 l.length (fun j => ndC (gN l j))
def mayT (z a:Int) : Int := cnd (a.tmod 32 != 0) 13 (cnd (decide (a ≥ z)) 12 0)
def frT (z:Int) (l : List Nd) (a:Int) : Int := cnd (mayT z a != 0) (mayT z a) (cnd (a == 0) 12 (cnd (decide (fnd l a ≥ 0)) 16 0))
def hdT (z:Int) (l : List Nd) (a:Int) : Int := cnd (cnd (mayT z a == 0) (decide (fnd l a < 0)) false) 14 (mayT z a)
def badC (x : Nd) : Bool := cnd (!f50_2 x.k x.a x.b x.r x.g x.s x.m) true (x.k == 0)
def ftT (z:Int) (l : List Nd) (x : Nd) : Int := cnd (frT z l x.t != 0) (frT z l x.t) (cnd (badC x) 10 (cnd (decide ((l.length:Int) ≥ 65536)) 15 0))
def rtL (z:Int) (l : List Nd) (x : Nd) : List Nd := cnd (ftT z l x != 0) l (putN l 0 x)
def rtR (z:Int) (l : List Nd) (x : Nd) : Int := cnd (ftT z l x != 0) (ftT z l x) 0
def atN (l : List Nd) (a:Int) : Nd := gN l (fnd l a).toNat
def chR (z:Int) (l : List Nd) (p:Int) (x : Nd) : Int := cnd (hdT z l p != 0) (hdT z l p) (cnd (ftT z l x != 0) (ftT z l x) (cnd (decide ((atN l p).d ≥ 4096)) 42 0))
def chL (z:Int) (l : List Nd) (p:Int) (x : Nd) : List Nd := cnd (hdT z l p != 0) l (cnd (ftT z l x != 0) l (cnd (decide ((atN l p).d ≥ 4096)) l
  (putN l ((fnd l p).toNat + 1) { x with d := IntKind.i64.wrap ((atN l p).d + 1) })))
def slN (x : Nd) : Sl := ⟨x.k, x.a, x.b, x.r, x.g, x.s, x.m, 0, 0, 0⟩
end Go.Sx.M

section
namespace Go.Sx.M
open Go Go.Sx Go.Proofs Go.RowKit
def ls (F : Nat → Int) (n:Nat) : List Int := (List.range n).map F
theorem ls_len (F : Nat → Int) (n:Nat) : (ls F n).length = n := by simp [ls]
end Go.Sx.M

end

section
namespace Go.Sx.M
open Go Go.Sx Go.Sort
/-! ### A row as an array -/
def ar (F : Nat → Int) (n:Nat) : Array Int := ((List.range n).map F).toArray
def gt (d : Array Int) (j:Nat) : Int := d[j]!
theorem ar_size (F : Nat → Int) (n:Nat) : (ar F n).size = n := by simp [ar]
theorem ar_get {F : Nat → Int} {n i : Nat} (h : i < n) : (ar F n)[i]! = F i := by
  have : i < (ar F n).size := by rw [ar_size]; exact h
  rw [getElem!_pos (ar F n) i this]
  simp [ar]
theorem gt_ar {F : Nat → Int} {n i : Nat} (h : i < n) : gt (ar F n) i = F i := ar_get h
def swF (F : Nat → Int) (i j:Nat) : Nat → Int := fun k => cnd (Nat.beq k j) (F i) (cnd (Nat.beq k i) (F j) (F k))
theorem ar_swp {F : Nat → Int} {n i j : Nat} (hi : i < n) (hj : j < n) : swp (ar F n) i j = ar (swF F i j) n := by
  unfold swp
  rw [ar_get hi, ar_get hj]
  apply Array.ext
  · simp [ar_size]
  · intro k h1 h2
    rw [ar_size] at h2
    rw [← getElem!_pos (ar (swF F i j) n) k (by rw [ar_size]; exact h2), ar_get h2]
    have h3 : k < (ar F n).size := by rw [ar_size]; exact h2
    rw [Array.getElem_setIfInBounds (by simpa using h3), Array.getElem_setIfInBounds h3]
    have h4 : (ar F n)[k] = F k := by rw [← getElem!_pos (ar F n) k h3, ar_get h2]
    unfold swF
    by_cases e1 : j = k
    · subst e1
      have : Nat.beq j j = true := by simp
      rw [this]; simp [cnd]
    · have q1 : Nat.beq k j = false := by
        cases hq : Nat.beq k j with
        | false => rfl
        | true => exact absurd (Nat.eq_of_beq_eq_true hq).symm e1
      rw [if_neg e1, q1]
      by_cases e2 : i = k
      · subst e2
        have : Nat.beq i i = true := by simp
        rw [this]; simp [cnd]
      · have q2 : Nat.beq k i = false := by
          cases hq : Nat.beq k i with
          | false => rfl
          | true => exact absurd (Nat.eq_of_beq_eq_true hq).symm e2
        rw [if_neg e2, q2, h4]
        simp [cnd]
theorem HOw_ar {R : Type} {F : Nat → Int} {N n : Nat} {d : Array Int} (h : N = n) (hd : ar F n = d) : HOw (.row 22 1 N (fun j => [.int .u64 (F j)]) : HO R) (.row 22 1 n (fun j => [.int .u64 (gt d j)])) := by
  subst h hd
  exact .row fun j hj => by rw [gt_ar hj]
theorem lt_ar {F : Nat → Int} {n i j : Nat} (hi : i < n) (hj : j < n) : ltInt (ar F n)[i]! (ar F n)[j]! = decide (F i < F j) := by
  rw [ar_get hi, ar_get hj]; rfl
end Go.Sx.M

end

namespace Go.Sx.M
open Go Go.Sx Go.Proofs Go.RowKit
set_option maxRecDepth 100000
def pre204 (v : V204) : Prop := True
theorem n204 (v : V204) (h : pre204 v) : (f204 v).ok ∧ (f204 v).get.1 = .bool (decide (v.x < v.y)) ∧ HOws (f204 v).get.2.1 [] := by
  refine ⟨trivial, ?_, .refl _⟩
  simp only [f204, Tr.get, f204_0, f219_0]
  simp [cnd]
noncomputable def f204n (v : V204) : Tr (Fin th.R) := .need (pre204 v) (.leaf (.bool (decide (v.x < v.y)), [], []))
theorem s204n : Sound Try.prog th 204 (fnC d204 ofV204 f204n) := fnC_refine s204 fun v h => by
  obtain ⟨hp, _⟩ := h
  obtain ⟨a, b, c⟩ := n204 v hp
  exact ⟨a, b.symm, (qdd204 v).symm, c, by show 0 ≤ 0; decide⟩
noncomputable def nice204n : List (Nat × CF th.R) := (204, lift (fnC d204 ofV204 f204n)) :: nice219
theorem nok204n : NiceOk Try.prog th nice204n := ⟨lift_sound s204n, nok219⟩
end Go.Sx.M

