/- Contracts of the functions of this seat, each by the executor and the kernel; part 2. Their conditions stand in each. -/
import Derived.Test.YtoldganbhlgboaaC1
import Derived.Sort.AssemblyPlain
import Derived.Sort.Walk13
import Derived.Sort.WalkA14
import Derived.Sort.Walk11
import Derived.Sort.WalkC4
import Derived.Sort.WalkA6
import Derived.Sort.Walk7
import Derived.Lib.BitFns
set_option linter.unusedVariables false
set_option linter.unusedSimpArgs false
namespace Go.Sx.M
open Go Go.Sx

theorem size_eq (k b : Int) : (f172_1 k b = true ∧ f172_0 k b = f176_0 k b ∧ (f176_0 k b = -1 ∨ (5 ≤ f176_0 k b ∧ f176_0 k b ≤ 32))) ∨ (f172_1 k b = false ∧ f176_0 k b = -2) := by
  simp only [f172_0, f172_1, f173_0, f173_1, f176_0, cnd_eq]
  grind (splits := 60) [wrap_i64]
theorem lies_eq {k a b r g s m : Int} (ha : 0 ≤ a) (ha2 : a < 18446744073709551616) : f120_0 k a b r g s m = f127_1 k a b r g s m := by
  rcases size_eq k b with ⟨h1, h2, h3 | ⟨h3, h4⟩⟩ | ⟨h1, h2⟩
  · simp only [f120_0, f127_1, h1, h2, h3, cnd_eq]
    simp
  · rw [lies_at h1 (by omega) (by omega) ha ha2]
    have hp := p26_eq (n := (f176_0 k b).toNat) (by omega)
    have hle := p26_le (n := (f176_0 k b).toNat) (m := 32) (by omega) (by omega)
    have h32 : p26 32 = 4294967296 := by decide +kernel
    have hpos := p26_pos (n := (f176_0 k b).toNat) (by omega)
    have hdvd : p26 (f176_0 k b).toNat ∣ 4294967296 := by
      rw [hp]
      have : (4294967296 : Int) = ((2 ^ 32 : Nat) : Int) := by decide
      rw [this, Int.natCast_dvd_natCast]
      exact Nat.pow_dvd_pow 2 (by omega)
    have hd : decide (f176_0 k b < 0) = false := by simp; omega
    have htm : a.tmod (p26 (f176_0 k b).toNat) = a % p26 (f176_0 k b).toNat := Int.tmod_eq_emod_of_nonneg ha
    simp only [f127_1, h2, hd, htm, cnd_eq]
    generalize p26 (f176_0 k b).toNat = q at *
    by_cases hal : a % q = 0
    · by_cases hlt : a < 4294967296
      · have hd : q ∣ 4294967296 - a := Int.dvd_sub hdvd (Int.dvd_of_emod_eq_zero hal)
        have hle2 : q ≤ 4294967296 - a := Int.le_of_dvd (by omega) hd
        rw [wrap_u64_id (x := a + q) (by omega) (by omega)]
        simp [hal, hlt]
        omega
      · simp [hal, hlt]
    · simp [hal]
  · have hf : f120_0 k a b r g s m = false := by simp only [f120_0, h1, cnd_eq]; simp
    rw [hf]
    simp only [f127_1, h2, cnd_eq]
    simp
theorem low_eq {m : Int} (hm : 0 ≤ m) : f195_1 m = decide (m < 281474976710656) := by
  have : m.fdiv 281474976710656 = m / 281474976710656 := Int.fdiv_eq_ediv_of_nonneg m (by omega)
  simp only [f195_1, this]
  by_cases h : m < 281474976710656
  · have : m / 281474976710656 = 0 := by omega
    simp [h, this]
  · have : ¬ m / 281474976710656 = 0 := by omega
    simp [h, this]
/-- A level's bits. -/
theorem bits_eq {l : Int} (h0 : 0 ≤ l) (h1 : l < 4) : f194_0 l = 12 + 9 * (3 - l) ∧ f213_2 l = 12 + 9 * (3 - l) := by
  have : l = 0 ∨ l = 1 ∨ l = 2 ∨ l = 3 := by omega
  rcases this with rfl | rfl | rfl | rfl <;> decide +kernel
theorem base_eq {m l : Int} (hm : 0 ≤ m) (hm2 : m < 281474976710656) (h0 : 0 ≤ l) (h1 : l < 4) : f196_0 m l = f197_2 m l := by
  obtain ⟨w, rfl⟩ : ∃ w : Nat, m = w := ⟨m.toNat, by omega⟩
  obtain ⟨e1, e2⟩ := bits_eq h0 h1
  have hk : f210_0 l = true := by simp [f210_0, cnd_eq]; omega
  have ht : ((w : Int)).tmod 281474976710656 = w := by
    rw [Int.tmod_eq_emod_of_nonneg (by omega)]; omega
  have ha : Go.bits Go.BinOp.and IntKind.u64 (w : Int) 281474976710655 = w := by
    have : (281474976710655 : Int) = ((281474976710655 : Nat) : Int) := rfl
    rw [this, u64_and_nat w _ (by omega) (by omega)]
    have e3 : 281474976710655 = 2 ^ 48 - 1 := by decide
    rw [e3, Nat.and_two_pow_sub_one_eq_mod]
    congr 1
    exact Nat.mod_eq_of_lt (by have : (2:Nat)^48 = 281474976710656 := by decide
                               omega)
  have hmin : min (12 + 9 * (3 - l)).toNat 64 = (12 + 9 * (3 - l)).toNat := by omega
  simp only [f196_0, hk, ha, f211_0, e1, f197_2, ht, e2, cnd]
  rw [downI_eq (by omega), hmin]
  exact andNot_ones (by omega) (by omega) (by omega)
theorem place_eq {m l : Int} (hm : 0 ≤ m) (h0 : 0 ≤ l) (h1 : l < 4) : cnd (f195_1 m) (f196_0 m l == m) false = f177_1 m l := by
  rw [low_eq hm, f177_1]
  by_cases h : m < 281474976710656
  · rw [base_eq hm h h0 h1]
  · simp [h, cnd_eq]
theorem below_pow {m g : Int} (hm : 0 ≤ m) (hm2 : m < 18446744073709551616) (h0 : 0 ≤ g) (h1 : g ≤ 63) : (Go.bits Go.BinOp.andNot IntKind.u64 m (f123_1 g) == 0) = decide (m < p26 g.toNat) := by
  obtain ⟨w, rfl⟩ : ∃ w : Nat, m = w := ⟨m.toNat, by omega⟩
  have hpos : 0 < 2 ^ g.toNat := Nat.pow_pos (by omega)
  rw [andNot_ones (by omega) h0 h1, p26_eq (by omega)]
  by_cases h : w < 2 ^ g.toNat
  · have e : w / 2 ^ g.toNat = 0 := Nat.div_eq_of_lt h
    have h' : (w : Int) < ((2 ^ g.toNat : Nat) : Int) := Int.ofNat_lt.2 h
    simp only [e, h', decide_true, Nat.zero_mul]
    rfl
  · have e : 0 < w / 2 ^ g.toNat := Nat.div_pos (by omega) hpos
    have e2 : 0 < w / 2 ^ g.toNat * 2 ^ g.toNat := Nat.mul_pos e hpos
    have h' : ¬ (w : Int) < ((2 ^ g.toNat : Nat) : Int) := fun x => h (Int.ofNat_lt.1 x)
    simp only [h', decide_false]
    generalize w / 2 ^ g.toNat * 2 ^ g.toNat = z at *
    simp
    omega
theorem rights_eq (r : Int) : f119_0 r 3 = (decide (0 ≤ r) && decide (r ≤ 3)) := by
  by_cases h : 0 ≤ r ∧ r ≤ 7
  · have : r = 0 ∨ r = 1 ∨ r = 2 ∨ r = 3 ∨ r = 4 ∨ r = 5 ∨ r = 6 ∨ r = 7 := by omega
    rcases this with rfl | rfl | rfl | rfl | rfl | rfl | rfl | rfl <;> decide +kernel
  · have h1 : f116_0 r = false := by simp [f116_0, cnd_eq]; omega
    simp only [f119_0, h1, cnd]
    simp
    omega
theorem marked_eq {k a b r g s m : Int} (hb : -9223372036854775808 ≤ b ∧ b < 9223372036854775808) (hm : 0 ≤ m) (hm2 : m < 18446744073709551616) (hg : 0 ≤ g) (hg2 : g < 9223372036854775808) (hgk : k = 2 ∨ k = 4 ∨ g = 0)
    (hs : 0 ≤ s) (hsk : k = 3 ∨ k = 4 ∨ k = 5 ∨ s = 0) (hn : f172_1 k b = true) : f121_1 k a b r g s m = f128_5 k a b r g s m := by
  by_cases k1 : k = 1
  · subst k1
    have hb2 : 5 ≤ b ∧ b ≤ 32 := by revert hn; simp [f172_1, cnd_eq]
    have hg0 : g = 0 := by omega
    subst hg0
    have hpos := p26_pos (n := b.toNat) (by omega)
    have hle := p26_le (n := b.toNat) (m := 32) (by omega) (by omega)
    have h32 : p26 32 = 4294967296 := by decide +kernel
    have h5 : p26 (Int.toNat 5) = 32 := by decide +kernel
    have htm : m.tmod 32 = m % 32 := Int.tmod_eq_emod_of_nonneg hm
    simp only [f121_1, f128_5, ones_eq (n := b) (by omega) (by omega), aligned_eq (n := 5) hm hm2 (by omega) (by omega), h5, htm, cnd_eq]
    rw [wrap_u64_id (by omega) (by omega)]
    by_cases hh : m % 32 = 0 <;> simp [hh]
  by_cases k2 : k = 2
  · subst k2
    have hb2 : 1 ≤ b ∧ b ≤ 12 := by revert hn; simp [f172_1, cnd_eq]
    have hw : IntKind.i64.wrap (64 - b) = 64 - b := wrap_i64 (by omega) (by omega)
    simp only [f121_1, f128_5, hw, cnd_eq]
    by_cases hg3 : g ≤ 63
    · rw [below_pow hm hm2 hg hg3]
      grind
    · grind
  by_cases k3 : k = 3
  · subst k3
    have hg0 : g = 0 := by omega
    subst hg0
    have hb2 : b = 12 ∨ b = 21 ∨ b = 30 := by revert hn; simp only [f172_1, f173_0, f173_1, cnd_eq]; grind
    by_cases hs0 : s = 0
    · subst hs0; simp [f121_1, f128_5, f174_0, cnd_eq]
    · have hp : ∀ l, 0 ≤ l → l < 4 → cnd (f195_1 m) (f196_0 m l == m) false = f177_1 m l := fun l h0 h1 => place_eq hm h0 h1
      have e1 : f173_0 12 = 3 := by decide +kernel
      have e2 : f173_0 21 = 2 := by decide +kernel
      have e3 : f173_0 30 = 1 := by decide +kernel
      rcases hb2 with rfl | rfl | rfl
      · simp only [f121_1, f128_5, f174_0, e1, hp 3 (by omega) (by omega)]; simp [cnd_eq, hs0]
      · simp only [f121_1, f128_5, f174_0, e2, hp 2 (by omega) (by omega)]; simp [cnd_eq, hs0]
      · simp only [f121_1, f128_5, f174_0, e3, hp 1 (by omega) (by omega)]; simp [cnd_eq, hs0]
  by_cases k4 : k = 4
  · subst k4
    by_cases hs0 : s = 0
    · subst hs0
      simp only [f121_1, f128_5, f174_0, cnd_eq]
      grind
    · have hw : IntKind.i64.wrap (g - 1) = g - 1 := wrap_i64 (by omega) (by omega)
      by_cases hg1 : 1 ≤ g ∧ g ≤ 3
      · have hp := place_eq (m := m) (l := g - 1) hm (by omega) (by omega)
        simp only [f121_1, f128_5, f174_0, hw, hp]
        simp only [cnd_eq]
        grind
      · simp only [f121_1, f128_5, f174_0, hw, cnd_eq]
        grind
  have hg0 : g = 0 := by omega
  subst hg0
  by_cases k7 : k = 7
  · subst k7; simp [f121_1, f128_5, cnd_eq]
  by_cases k9 : k = 9
  · subst k9; simp [f121_1, f128_5, cnd_eq]
  by_cases k10 : k = 10
  · subst k10
    have hb2 : 1 ≤ b ∧ b ≤ 12 := by revert hn; simp [f172_1, cnd_eq]
    have e3 : min b.toNat IntKind.u64.bits = b.toNat := by simp only [IntKind.bits]; omega
    have e4 : (2 : Int) ^ b.toNat = p26 b.toNat := by rw [p26_eq (by omega)]; simp
    have hpos := p26_pos (n := b.toNat) (by omega)
    have hle := p26_le (n := b.toNat) (m := 32) (by omega) (by omega)
    have h32 : p26 32 = 4294967296 := by decide +kernel
    have e5 : IntKind.u64.wrap (1 * p26 b.toNat) = p26 b.toNat := by rw [Int.one_mul, wrap_u64_id (by omega) (by omega)]
    simp [f121_1, f128_5, cnd_eq, e3, e4]
    rw [wrap_u64_id (by omega) (by omega)]
  · simp [f121_1, f128_5, cnd_eq, k1, k2, k3, k4, k7, k9, k10]
theorem right_eq {k a b r g s m : Int} (ha : 0 ≤ a) (ha2 : a < 18446744073709551616) (hb : -9223372036854775808 ≤ b ∧ b < 9223372036854775808) (hm : 0 ≤ m) (hm2 : m < 18446744073709551616) (hg2 : g < 9223372036854775808) :
    f45_1 k a b r g s m = f50_2 k a b r g s m := by
  by_cases hl : f127_1 k a b r g s m = true
  · have hn : f172_1 k b = true := by
      rcases size_eq k b with ⟨h, _⟩ | ⟨_, h⟩
      · exact h
      · exfalso; revert hl; simp [f127_1, h, cnd_eq]
    by_cases hc : 0 ≤ g ∧ (k = 2 ∨ k = 4 ∨ g = 0) ∧ 0 ≤ s ∧ (k = 3 ∨ k = 4 ∨ k = 5 ∨ s = 0)
    · obtain ⟨c1, c2, c3, c4⟩ := hc
      simp only [f45_1, f50_2, lies_eq ha ha2, hl, marked_eq hb hm hm2 c1 hg2 c2 c3 c4 hn, rights_eq, f118_0, f116_0, cnd_eq]
      generalize f128_5 k a b r g s m = z
      grind (splits := 40)
    · by_cases hgz : 0 ≤ g ∧ (k = 2 ∨ k = 4 ∨ g = 0)
      · have : ¬ (0 ≤ s ∧ (k = 3 ∨ k = 4 ∨ k = 5 ∨ s = 0)) := fun h => hc ⟨hgz.1, hgz.2, h.1, h.2⟩
        simp only [f45_1, f50_2, lies_eq ha ha2, hl, cnd_eq]
        generalize f128_5 k a b r g s m = z
        generalize f121_1 k a b r g s m = z'
        grind (splits := 40)
      · have hz : f128_5 k a b r g s m = false := by
          simp only [f128_5, cnd_eq]
          grind (splits := 40)
        simp only [f45_1, f50_2, lies_eq ha ha2, hl, hz, cnd_eq]
        generalize f121_1 k a b r g s m = z'
        grind (splits := 40)
  · simp only [Bool.not_eq_true] at hl
    simp only [f45_1, f50_2, lies_eq ha ha2, hl, cnd_eq]
    simp
end Go.Sx.M

namespace Go.Sx.M
open Go Go.Sx

theorem ct {α : Type} (a b : α) : cnd true a b = a := rfl
theorem cf {α : Type} (a b : α) : cnd false a b = b := rfl
theorem right_size' {k a b r g s m : Int} (h : f45_1 k a b r g s m = true) : f172_1 k b = true ∧ f172_0 k b = f176_0 k b ∧ (f176_0 k b = -1 ∨ (5 ≤ f176_0 k b ∧ f176_0 k b ≤ 32)) := by
  rcases size_eq k b with h1 | ⟨h1, _⟩
  · exact h1
  · rw [right_size h1] at h; cases h
/-- Of those with slots: how many bits. -/
theorem slots_bits {k b : Int} (h : f172_1 k b = true) : ((k = 2 ∨ k = 10) → 1 ≤ b ∧ b ≤ 12 ∧ f176_0 k b = b + 5) ∧ (k = 8 → f176_0 k b = 7) := by
  revert h
  simp only [f172_1, f173_0, f173_1, f176_0, cnd_eq]
  grind (splits := 60) [wrap_i64]
theorem pow_slots {b : Int} (h0 : 0 ≤ b) (h1 : b ≤ 12) : IntKind.i64.wrap (1 * 2 ^ min b.toNat IntKind.i64.bits) = p26 b.toNat ∧ IntKind.i64.wrap (p26 b.toNat) = p26 b.toNat ∧ p26 (b + 5).toNat = p26 b.toNat * 32 ∧ 0 < p26 b.toNat ∧ p26 b.toNat ≤ 4096 := by
  have e3 : min b.toNat IntKind.i64.bits = b.toNat := by simp only [IntKind.bits]; omega
  have e4 : (2 : Int) ^ b.toNat = p26 b.toNat := by rw [p26_eq (by omega)]; simp
  have hpos := p26_pos (n := b.toNat) (by omega)
  have hle := p26_le (n := b.toNat) (m := 12) (by omega) (by omega)
  have h12 : p26 12 = 4096 := by decide +kernel
  have e5 : (b + 5).toNat = b.toNat + 5 := by omega
  refine ⟨by rw [e3, e4, Int.one_mul, wrap_i64 (by omega) (by omega)], wrap_i64 (by omega) (by omega), ?_, hpos, by omega⟩
  rw [e5, p26_eq (by omega), p26_eq (by omega), Nat.pow_add]
  simp
end Go.Sx.M

namespace Go.Sx.M
open Go Go.Sx

/-- A field's number read: a quotient's rest. -/
theorem field_get {l d : Int} {w : Nat} (hw : w < 18446744073709551616) (hf : f165_0 l d = true) (h0 : 0 ≤ l) (h1 : l ≤ 63) (h2 : 1 ≤ d) (h3 : d ≤ 63) : f102_1 l d w = ((w / 2 ^ l.toNat % 2 ^ d.toNat : Nat) : Int) := by
  have hp := p26_eq (n := d.toNat) (by omega)
  have hpos : 0 < 2 ^ d.toNat := Nat.pow_pos (by omega)
  have hle : 2 ^ d.toNat ≤ 2 ^ 63 := Nat.pow_le_pow_right (by omega) (by omega)
  have h63 : (2 : Nat) ^ 63 = 9223372036854775808 := by decide
  have e : p26 d.toNat - 1 = ((2 ^ d.toNat - 1 : Nat) : Int) := by rw [hp]; omega
  have e3 : min l.toNat IntKind.u64.bits = l.toNat := by simp only [IntKind.bits]; omega
  have e4 : ((w : Int)).fdiv (2 ^ l.toNat) = ((w / 2 ^ l.toNat : Nat) : Int) := by
    rw [Int.fdiv_eq_ediv_of_nonneg _ (by exact Int.le_of_lt (Int.pow_pos (by omega)))]
    simp
  have hq : w / 2 ^ l.toNat ≤ w := Nat.div_le_self _ _
  have hn : (!f165_0 l d) = false := by rw [hf]; rfl
  simp only [f102_1, hn, cf, e3, e4, ones_eq (n := d) (by omega) h3, e]
  rw [u64_and_nat _ _ (by omega) (by omega), Nat.and_two_pow_sub_one_eq_mod]
/-- A number put into a field of a word that is less than the field's lowest bit. -/
theorem field_put {l d : Int} {w v : Nat} (hf : f165_0 l d = true) (h0 : 0 ≤ l) (h1 : l ≤ 63) (h2 : 1 ≤ d) (h3 : d ≤ 63) (h4 : l + d ≤ 64) (hw : w < 2 ^ l.toNat) (hv : v < 2 ^ d.toNat) :
    f192_1 l d w v = ((w + v * 2 ^ l.toNat : Nat) : Int) := by
  have hp := p26_eq (n := d.toNat) (by omega)
  have hpos : 0 < 2 ^ d.toNat := Nat.pow_pos (by omega)
  have hposl : 0 < 2 ^ l.toNat := Nat.pow_pos (by omega)
  have h64 : (2 : Nat) ^ 64 = 18446744073709551616 := by decide
  have hd : 2 ^ d.toNat ≤ 2 ^ 63 := Nat.pow_le_pow_right (by omega) (by omega)
  have hl : 2 ^ l.toNat ≤ 2 ^ 63 := Nat.pow_le_pow_right (by omega) (by omega)
  have h63 : (2 : Nat) ^ 63 = 9223372036854775808 := by decide
  have hprod : 2 ^ d.toNat * 2 ^ l.toNat ≤ 2 ^ 64 := by rw [← Nat.pow_add]; exact Nat.pow_le_pow_right (by omega) (by omega)
  have e : p26 d.toNat - 1 = ((2 ^ d.toNat - 1 : Nat) : Int) := by rw [hp]; omega
  have e3 : min l.toNat IntKind.u64.bits = l.toNat := by simp only [IntKind.bits]; omega
  have hn : (!f165_0 l d) = false := by rw [hf]; rfl
  have hbel := below_pow (m := v) (g := d) (by omega) (by omega) (by omega) h3
  have hlt : decide ((v : Int) < p26 d.toNat) = true := by rw [hp]; simp only [decide_eq_true_eq]; exact Int.ofNat_lt.2 hv
  rw [hlt] at hbel
  have hne : (Go.bits Go.BinOp.andNot IntKind.u64 (v : Int) (f123_1 d) != 0) = false := by rw [bne, hbel]; rfl
  have hm1 : (2 ^ d.toNat - 1) * 2 ^ l.toNat < 18446744073709551616 := by
    have : (2 ^ d.toNat - 1) * 2 ^ l.toNat < 2 ^ d.toNat * 2 ^ l.toNat := Nat.mul_lt_mul_of_pos_right (by omega) hposl
    omega
  have hv1 : v * 2 ^ l.toNat < 18446744073709551616 := by
    have : v * 2 ^ l.toNat < 2 ^ d.toNat * 2 ^ l.toNat := Nat.mul_lt_mul_of_pos_right hv hposl
    omega
  have emask : f209_1 l d = (((2 ^ d.toNat - 1) * 2 ^ l.toNat : Nat) : Int) := by
    simp only [f209_1, hn, cf, e3, ones_eq (n := d) (by omega) h3, e]
    have : (((2 ^ d.toNat - 1 : Nat) : Int)) * 2 ^ l.toNat = (((2 ^ d.toNat - 1) * 2 ^ l.toNat : Nat) : Int) := by simp
    rw [this, wrap_u64_id (Int.natCast_nonneg _) (by omega)]
  have eshl : IntKind.u64.wrap ((v : Int) * 2 ^ l.toNat) = ((v * 2 ^ l.toNat : Nat) : Int) := by
    have : (v : Int) * 2 ^ l.toNat = ((v * 2 ^ l.toNat : Nat) : Int) := by simp
    rw [this, wrap_u64_id (Int.natCast_nonneg _) (by omega)]
  simp only [f192_1, hn, hne, cf, emask, e3, eshl]
  have hkeep : w &&& (18446744073709551615 - (2 ^ d.toNat - 1) * 2 ^ l.toNat) = w := by
    apply Nat.eq_of_testBit_eq
    intro j
    have e1 : 18446744073709551615 - (2 ^ d.toNat - 1) * 2 ^ l.toNat = 2 ^ 64 - ((2 ^ d.toNat - 1) * 2 ^ l.toNat + 1) := by omega
    rw [e1, Nat.testBit_and, Nat.testBit_two_pow_sub_succ (by omega), ← Nat.shiftLeft_eq, Nat.testBit_shiftLeft]
    by_cases hj : j < l.toNat
    · have h1 : j < 64 := by omega
      have h2 : ¬ j ≥ l.toNat := by omega
      simp [h1, h2]
    · have : w.testBit j = false := Nat.testBit_lt_two_pow (Nat.lt_of_lt_of_le hw (Nat.pow_le_pow_right (by omega) (by omega)))
      simp [this]
  rw [u64_andNot_nat w _ (by omega) (by omega), hkeep, u64_or_nat w _ (by omega) (by omega)]
  congr 1
  rw [Nat.or_comm, Nat.mul_comm, ← Nat.two_pow_add_eq_or_of_lt hw, Nat.add_comm]
end Go.Sx.M

namespace Go.Sx.M
open Go Go.Sx

/-- The numbers of a right one, in their fields. -/
theorem right_ranges {k a b r g s m : Int} (ha : 0 ≤ a) (ha2 : a < 18446744073709551616) (h : f50_2 k a b r g s m = true) (h1 : f45_1 k a b r g s m = true) :
    (0 ≤ k ∧ k ≤ 10) ∧ (0 ≤ b ∧ b ≤ 32) ∧ (0 ≤ r ∧ r ≤ 7) ∧ (0 ≤ g ∧ g ≤ 63) ∧ (0 ≤ s ∧ s ≤ 4095) ∧ a < 4294967296 ∧ a % 32 = 0 := by
  obtain ⟨q1, q2, q3⟩ := right_size' h1
  have hk : 0 ≤ k ∧ k ≤ 10 := by revert q1; simp only [f172_1, f173_0, f173_1, cnd_eq]; grind (splits := 40)
  have hb : 0 ≤ b ∧ b ≤ 32 := by revert q1; simp only [f172_1, f173_0, f173_1, cnd_eq]; grind (splits := 40)
  have hl : f127_1 k a b r g s m = true := by
    cases hh : f127_1 k a b r g s m with
    | true => rfl
    | false => rw [← h]; simp [f50_2, hh, cnd_eq]
  have hr : 0 ≤ r ∧ r ≤ 7 := by revert h; simp only [f50_2, f118_0, hl, cnd_eq]; grind (splits := 40)
  have hs : 0 ≤ s ∧ s ≤ 4095 := by revert h; simp only [f50_2, f118_0, hl, cnd_eq]; grind (splits := 40)
  have hg0 : 0 ≤ g := by revert h1; simp only [f45_1, cnd_eq]; grind (splits := 40)
  have hm : f128_5 k a b r g s m = true := by revert h; simp only [f50_2, hl, cnd_eq]; grind (splits := 40)
  have hg : g ≤ 63 := by revert hm; simp only [f128_5, cnd_eq]; grind (splits := 40)
  have hal : a < 4294967296 ∧ a % 32 = 0 := by
    rcases q3 with q3 | ⟨q3, q4⟩
    · have : a = 0 := by revert hl; simp [f127_1, q3, cnd_eq]
      omega
    · have hd : decide (f176_0 k b < 0) = false := by simp; omega
      have htm : a.tmod (p26 (f176_0 k b).toNat) = a % p26 (f176_0 k b).toNat := Int.tmod_eq_emod_of_nonneg ha
      have hlt : a < 4294967296 := by revert hl; simp only [f127_1, hd, cnd_eq]; grind
      have hmod : a % p26 (f176_0 k b).toNat = 0 := by revert hl; simp only [f127_1, hd, htm, cnd_eq]; grind
      have hdvd : (32 : Int) ∣ p26 (f176_0 k b).toNat := by
        rw [p26_eq (by omega)]
        have : (32 : Int) = ((2 ^ 5 : Nat) : Int) := by decide
        rw [this, Int.natCast_dvd_natCast]
        exact Nat.pow_dvd_pow 2 (by omega)
      have := Int.dvd_trans hdvd (Int.dvd_of_emod_eq_zero hmod)
      exact ⟨hlt, by omega⟩
  exact ⟨hk, hb, hr, ⟨hg0, hg⟩, hs, hal⟩
def wordN (k b r g s q : Nat) : Nat := k + b * 16 + r * 1024 + g * 8192 + s * 524288 + q * 34359738368
theorem word_put {k b r g s q : Nat} (hk : k < 16) (hb : b < 64) (hr : r < 8) (hg : g < 64) (hs : s < 65536) (hq : q < 134217728) :
    f192_1 35 27 (f192_1 19 16 (f192_1 13 6 (f192_1 10 3 (f192_1 4 6 (f192_1 0 4 0 k) b) r) g) s) q = wordN k b r g s q := by
  have p4 : (2 : Nat) ^ (Int.toNat 4) = 16 := by decide
  have p6 : (2 : Nat) ^ (Int.toNat 6) = 64 := by decide
  have p10 : (2 : Nat) ^ (Int.toNat 10) = 1024 := by decide
  have p3 : (2 : Nat) ^ (Int.toNat 3) = 8 := by decide
  have p13 : (2 : Nat) ^ (Int.toNat 13) = 8192 := by decide
  have p19 : (2 : Nat) ^ (Int.toNat 19) = 524288 := by decide
  have p16 : (2 : Nat) ^ (Int.toNat 16) = 65536 := by decide
  have p35 : (2 : Nat) ^ (Int.toNat 35) = 34359738368 := by decide
  have p27 : (2 : Nat) ^ (Int.toNat 27) = 134217728 := by decide
  have p0 : (2 : Nat) ^ (Int.toNat 0) = 1 := by decide
  have e0 : f192_1 0 4 0 k = ((0 + k * 2 ^ (Int.toNat 0) : Nat) : Int) := field_put (w := 0) (by decide +kernel) (by omega) (by omega) (by omega) (by omega) (by omega) (by rw [p0]; omega) (by rw [p4]; omega)
  rw [e0, field_put (l := 4) (d := 6) (by decide +kernel) (by omega) (by omega) (by omega) (by omega) (by omega) (by rw [p0, p4]; omega) (by rw [p6]; omega)]
  rw [field_put (l := 10) (d := 3) (by decide +kernel) (by omega) (by omega) (by omega) (by omega) (by omega) (by rw [p0, p4, p10]; omega) (by rw [p3]; omega)]
  rw [field_put (l := 13) (d := 6) (by decide +kernel) (by omega) (by omega) (by omega) (by omega) (by omega) (by rw [p0, p4, p10, p13]; omega) (by rw [p6]; omega)]
  rw [field_put (l := 19) (d := 16) (by decide +kernel) (by omega) (by omega) (by omega) (by omega) (by omega) (by rw [p0, p4, p10, p13, p19]; omega) (by rw [p16]; omega)]
  rw [field_put (l := 35) (d := 27) (by decide +kernel) (by omega) (by omega) (by omega) (by omega) (by omega) (by rw [p0, p4, p10, p13, p19, p35]; omega) (by rw [p27]; omega)]
  rw [p0, p4, p10, p13, p19, p35]
  unfold wordN
  congr 1
  omega
theorem word_get {k b r g s q : Nat} (hk : k < 16) (hb : b < 64) (hr : r < 8) (hg : g < 64) (hs : s < 65536) (hq : q < 134217728) :
    f102_1 0 4 (wordN k b r g s q) = k ∧ f102_1 4 6 (wordN k b r g s q) = b ∧ f102_1 10 3 (wordN k b r g s q) = r ∧ f102_1 13 6 (wordN k b r g s q) = g ∧ f102_1 19 16 (wordN k b r g s q) = s ∧ f102_1 35 27 (wordN k b r g s q) = q := by
  have p4 : (2 : Nat) ^ (Int.toNat 4) = 16 := by decide
  have p6 : (2 : Nat) ^ (Int.toNat 6) = 64 := by decide
  have p10 : (2 : Nat) ^ (Int.toNat 10) = 1024 := by decide
  have p3 : (2 : Nat) ^ (Int.toNat 3) = 8 := by decide
  have p13 : (2 : Nat) ^ (Int.toNat 13) = 8192 := by decide
  have p19 : (2 : Nat) ^ (Int.toNat 19) = 524288 := by decide
  have p16 : (2 : Nat) ^ (Int.toNat 16) = 65536 := by decide
  have p35 : (2 : Nat) ^ (Int.toNat 35) = 34359738368 := by decide
  have p27 : (2 : Nat) ^ (Int.toNat 27) = 134217728 := by decide
  have p0 : (2 : Nat) ^ (Int.toNat 0) = 1 := by decide
  have hw : wordN k b r g s q < 18446744073709551616 := by unfold wordN; omega
  refine ⟨?_, ?_, ?_, ?_, ?_, ?_⟩
  · rw [field_get hw (by decide +kernel) (by omega) (by omega) (by omega) (by omega), p0, p4]; unfold wordN; omega
  · rw [field_get hw (by decide +kernel) (by omega) (by omega) (by omega) (by omega), p4, p6]; unfold wordN; omega
  · rw [field_get hw (by decide +kernel) (by omega) (by omega) (by omega) (by omega), p10, p3]; unfold wordN; omega
  · rw [field_get hw (by decide +kernel) (by omega) (by omega) (by omega) (by omega), p13, p6]; unfold wordN; omega
  · rw [field_get hw (by decide +kernel) (by omega) (by omega) (by omega) (by omega), p19, p16]; unfold wordN; omega
  · rw [field_get hw (by decide +kernel) (by omega) (by omega) (by omega) (by omega), p35, p27]; unfold wordN; omega
/-- The first word of a right one: the program's and the document's. -/
theorem word_right {k a b r g s m : Int} (ha : 0 ≤ a) (ha2 : a < 18446744073709551616) (h : f50_2 k a b r g s m = true) (h1 : f45_1 k a b r g s m = true) :
    f164_14 k a b r g s m = wordN k.toNat b.toNat r.toNat g.toNat s.toNat (a / 32).toNat ∧ f160_2 k a b r g s m = wordN k.toNat b.toNat r.toNat g.toNat s.toNat (a / 32).toNat := by
  obtain ⟨hk, hb, hr, hg, hs, hal, hmod⟩ := right_ranges ha ha2 h h1
  have hn : (!f45_1 k a b r g s m) = false := by rw [h1]; rfl
  have hq : a.fdiv 32 = a / 32 := Int.fdiv_eq_ediv_of_nonneg a (by omega)
  have ht : a.tdiv 32 = a / 32 := Int.tdiv_eq_ediv_of_nonneg ha
  obtain ⟨q, hq2⟩ : ∃ q : Nat, a / 32 = q := ⟨(a / 32).toNat, by omega⟩
  have hql : q < 134217728 := by omega
  simp only [f164_14, f160_2, hn, cf, hq, ht, hq2]
  clear h h1 hn hq ht hq2 hal hmod ha ha2
  obtain ⟨k, rfl⟩ : ∃ n : Nat, k = n := ⟨k.toNat, by omega⟩
  obtain ⟨b, rfl⟩ : ∃ n : Nat, b = n := ⟨b.toNat, by omega⟩
  obtain ⟨r, rfl⟩ : ∃ n : Nat, r = n := ⟨r.toNat, by omega⟩
  obtain ⟨g, rfl⟩ : ∃ n : Nat, g = n := ⟨g.toNat, by omega⟩
  obtain ⟨s, rfl⟩ : ∃ n : Nat, s = n := ⟨s.toNat, by omega⟩
  simp only [Int.toNat_natCast]
  rw [wrap_u64_id (x := (k : Int)) (by omega) (by omega), wrap_u64_id (x := (b : Int)) (by omega) (by omega), wrap_u64_id (x := (r : Int)) (by omega) (by omega), wrap_u64_id (x := (g : Int)) (by omega) (by omega),
    wrap_u64_id (x := (s : Int)) (by omega) (by omega), wrap_u64_id (x := (q : Int)) (by omega) (by omega)]
  constructor
  · exact word_put (by omega) (by omega) (by omega) (by omega) (by omega) (by omega)
  · rw [wrap_u64_id (x := (b : Int) * 16) (by omega) (by omega), wrap_u64_id (x := (k : Int) + b * 16) (by omega) (by omega)]
    rw [wrap_u64_id (x := (r : Int) * 1024) (by omega) (by omega), wrap_u64_id (x := (k : Int) + b * 16 + r * 1024) (by omega) (by omega)]
    rw [wrap_u64_id (x := (g : Int) * 8192) (by omega) (by omega), wrap_u64_id (x := (k : Int) + b * 16 + r * 1024 + g * 8192) (by omega) (by omega)]
    rw [wrap_u64_id (x := (s : Int) * 524288) (by omega) (by omega), wrap_u64_id (x := (k : Int) + b * 16 + r * 1024 + g * 8192 + s * 524288) (by omega) (by omega)]
    rw [wrap_u64_id (x := (q : Int) * 34359738368) (by omega) (by omega), wrap_u64_id (x := (k : Int) + b * 16 + r * 1024 + g * 8192 + s * 524288 + q * 34359738368) (by omega) (by omega)]
    unfold wordN
    omega
end Go.Sx.M

namespace Go.Sx.M
open Go Go.Sx

theorem words_at {k a b r g s m : Int} (h1 : f45_1 k a b r g s m = true) : f164_15 k a b r g s m = m ∧ f164_16 k a b r g s m = 0 := by
  simp [f164_15, f164_16, h1, cnd_eq]
theorem words_no {k a b r g s m : Int} (h1 : f45_1 k a b r g s m = false) : f164_14 k a b r g s m = 0 ∧ f164_15 k a b r g s m = 0 ∧ f164_16 k a b r g s m = 10 := by
  simp [f164_14, f164_15, f164_16, h1, cnd_eq]
theorem get_same {a : Int} (ha : 0 ≤ a) (ha2 : a < 18446744073709551616) {l d : Int} (hf : f165_0 l d = true) (h0 : 0 ≤ l) (h1 : l ≤ 63) (h2 : 1 ≤ d) (h3 : d ≤ 63) (h4 : l + d ≤ 64) : f102_1 l d a = getI a l d := by
  obtain ⟨w, rfl⟩ : ∃ w : Nat, a = w := ⟨a.toNat, by omega⟩
  rw [field_get (by omega) hf h0 h1 h2 h3, getI_eq (by omega) h0 h4]
end Go.Sx.M

namespace Go.Sx.M
open Go Go.Sx
structure Sl where
  k : Int
  a : Int
  b : Int
  r : Int
  g : Int
  s : Int
  m : Int
  x : Int
  p : Int
  d : Int
  deriving DecidableEq
def sl0 : Sl := ⟨0, 0, 0, 0, 0, 0, 0, 0, 0, 0⟩
def U64 (a : Int) : Prop := 0 ≤ a ∧ a < 18446744073709551616
def I64 (a : Int) : Prop := -9223372036854775808 ≤ a ∧ a < 9223372036854775808
/-- The numbers of a slot are of their kinds. -/
structure SlR (z : Sl) : Prop where
  k : I64 z.k
  a : U64 z.a
  b : I64 z.b
  r : I64 z.r
  g : I64 z.g
  s : I64 z.s
  m : U64 z.m
  x : U64 z.x
  p : U64 z.p
  d : I64 z.d
def rgt (s : Sl) : Bool := f45_1 s.k s.a s.b s.r s.g s.s s.m
def rightS (s : Sl) : Bool := f34_0 s.k s.a s.b s.r s.g s.s s.m s.x s.p s.d
def wd0 (s : Sl) : Int := f104_2 s.k s.a s.b s.r s.g s.s s.m s.x s.p s.d
def wd1 (s : Sl) : Int := f104_3 s.k s.a s.b s.r s.g s.s s.m s.x s.p s.d
def wd2 (s : Sl) : Int := f104_4 s.k s.a s.b s.r s.g s.s s.m s.x s.p s.d
def wd3 (s : Sl) : Int := f104_5 s.k s.a s.b s.r s.g s.s s.m s.x s.p s.d
theorem link_iff {x : Int} (h : U64 x) : f107_1 x = true ↔ x < 4294967296 ∧ x % 32 = 0 := by
  have e : f125_0 x 5 = decide (x % 32 = 0) := by
    have := aligned_eq (a := x) (n := 5) h.1 h.2 (by omega) (by omega)
    rw [this]
    have : p26 (Int.toNat 5) = 32 := by decide +kernel
    rw [this]
    by_cases hh : x % 32 = 0 <;> simp [hh]
  have : x.fdiv 4294967296 = x / 4294967296 := Int.fdiv_eq_ediv_of_nonneg x (by omega)
  have h1 := h.1
  have h2 := h.2
  simp only [f107_1, e, this, cnd_eq]
  by_cases hx : x < 4294967296
  · have : x / 4294967296 = 0 := by omega
    simp [this, hx]
  · have : ¬ x / 4294967296 = 0 := by omega
    simp [this, hx]
theorem rightS_iff {s : Sl} (h : SlR s) : rightS s = true ↔ rgt s = true ∧ (s.x < 4294967296 ∧ s.x % 32 = 0) ∧ (s.p < 4294967296 ∧ s.p % 32 = 0) ∧ 0 ≤ s.d ∧ s.d ≤ 4096 := by
  have e1 := link_iff h.x
  have e2 := link_iff h.p
  rw [← e1, ← e2]
  simp only [rightS, f34_0, rgt]
  generalize f45_1 s.k s.a s.b s.r s.g s.s s.m = u
  generalize f107_1 s.x = v
  generalize f107_1 s.p = w
  cases u <;> cases v <;> cases w <;> simp [cnd] <;> (by_cases h1 : 0 ≤ s.d <;> by_cases h2 : s.d ≤ 4096 <;> simp [h1, h2])
theorem wd1_eq {s : Sl} (h : rgt s = true) : wd1 s = s.m := (words_at (k := s.k) (a := s.a) (b := s.b) (r := s.r) (g := s.g) (s := s.s) (m := s.m) h).1
theorem wd2_eq {s : Sl} (h : SlR s) (hx : s.x < 4294967296) (hp : s.p < 4294967296) : wd2 s = s.x / 32 + s.p / 32 * 4294967296 := by
  have hx0 := h.x.1
  have hp0 := h.p.1
  have e1 : s.x.fdiv 32 = s.x / 32 := Int.fdiv_eq_ediv_of_nonneg _ (by omega)
  have e2 : s.p.fdiv 32 = s.p / 32 := Int.fdiv_eq_ediv_of_nonneg _ (by omega)
  simp only [wd2, f104_4, e1, e2]
  obtain ⟨x, hx2⟩ : ∃ n : Nat, s.x / 32 = n := ⟨(s.x / 32).toNat, by omega⟩
  obtain ⟨q, hq2⟩ : ∃ n : Nat, s.p / 32 = n := ⟨(s.p / 32).toNat, by omega⟩
  rw [hx2, hq2]
  have hx3 : x < 134217728 := by omega
  have hq3 : q < 134217728 := by omega
  rw [wrap_u64_id (x := (q : Int) * 4294967296) (by omega) (by omega)]
  have e3 : (q : Int) * 4294967296 = ((q * 4294967296 : Nat) : Int) := by simp
  rw [e3, u64_or_nat x _ (by omega) (by omega)]
  have : x ||| q * 4294967296 = x + q * 4294967296 := by
    have h32 : q * 4294967296 = 2 ^ 32 * q := by omega
    rw [h32, Nat.or_comm, ← Nat.two_pow_add_eq_or_of_lt (by omega), Nat.add_comm]
  rw [this]; simp
theorem links_back {x q : Nat} (hx : x < 134217728) (hq : q < 134217728) : f102_1 0 27 ((x + q * 4294967296 : Nat) : Int) = x ∧ f102_1 32 27 ((x + q * 4294967296 : Nat) : Int) = q := by
  have p0 : (2 : Nat) ^ (Int.toNat 0) = 1 := by decide
  have p27 : (2 : Nat) ^ (Int.toNat 27) = 134217728 := by decide
  have p32 : (2 : Nat) ^ (Int.toNat 32) = 4294967296 := by decide
  refine ⟨?_, ?_⟩
  · rw [field_get (by omega) (by decide +kernel) (by omega) (by omega) (by omega) (by omega), p0, p27]; omega
  · rw [field_get (by omega) (by decide +kernel) (by omega) (by omega) (by omega) (by omega), p32, p27]; omega
theorem rgt2 {s : Sl} (h : SlR s) (hr : rgt s = true) : f50_2 s.k s.a s.b s.r s.g s.s s.m = true := by
  have hR := right_eq (k := s.k) (r := s.r) (s := s.s) h.a.1 h.a.2 h.b h.m.1 h.m.2 h.g.2
  exact hR.symm.trans hr
/-- The words of a right capability are read as it was. -/
theorem read_words {s : Sl} (h : SlR s) (hr : rgt s = true) : f100_3 (wd0 s) (wd1 s) = s.k ∧ f100_4 (wd0 s) (wd1 s) = s.a ∧ f100_5 (wd0 s) (wd1 s) = s.b ∧ f100_6 (wd0 s) (wd1 s) = s.r ∧ f100_7 (wd0 s) (wd1 s) = s.g ∧
    f100_8 (wd0 s) (wd1 s) = s.s ∧ f100_9 (wd0 s) (wd1 s) = s.m ∧ f100_10 (wd0 s) (wd1 s) = 0 := by
  have hr2 := rgt2 h hr
  rw [wd1_eq hr]
  have e0 : wd0 s = f164_14 s.k s.a s.b s.r s.g s.s s.m := rfl
  rw [e0]
  have hr : f45_1 s.k s.a s.b s.r s.g s.s s.m = true := hr
  obtain ⟨ka, aa, ba, ra, ga, sa, ma, xa, pa, da⟩ := h
  obtain ⟨k, a, b, r, g, s, m, x, p, d⟩ := s
  simp only at *
  obtain ⟨w1, w2⟩ := word_right aa.1 aa.2 hr2 hr
  obtain ⟨hk, hb, hrr, hg, hs, hal, hmod⟩ := right_ranges aa.1 aa.2 hr2 hr
  obtain ⟨m1, m2⟩ := words_at hr
  obtain ⟨g1, g2, g3, g4, g5, g6⟩ := word_get (k := k.toNat) (b := b.toNat) (r := r.toNat) (g := g.toNat) (s := s.toNat) (q := (a / 32).toNat) (by omega) (by omega) (by omega) (by omega) (by omega) (by have := aa.1; omega)
  have c1 : IntKind.i64.wrap ((k.toNat : Nat) : Int) = k := by rw [wrap_i64 (by omega) (by omega)]; omega
  have c2 : IntKind.i64.wrap ((b.toNat : Nat) : Int) = b := by rw [wrap_i64 (by omega) (by omega)]; omega
  have c3 : IntKind.i64.wrap ((r.toNat : Nat) : Int) = r := by rw [wrap_i64 (by omega) (by omega)]; omega
  have c4 : IntKind.i64.wrap ((g.toNat : Nat) : Int) = g := by rw [wrap_i64 (by omega) (by omega)]; omega
  have c5 : IntKind.i64.wrap ((s.toNat : Nat) : Int) = s := by rw [wrap_i64 (by omega) (by omega)]; omega
  have c6 : IntKind.u64.wrap ((((a / 32).toNat : Nat) : Int) * 32) = a := by have := aa.1; rw [wrap_u64_id (by omega) (by omega)]; omega
  have w1' := w1
  generalize wordN k.toNat b.toNat r.toNat g.toNat s.toNat (a / 32).toNat = W at *
  simp only [hr, w1', m1, m2, f100_3, f100_4, f100_5, f100_6, f100_7, f100_8, f100_9, f100_10, g1, g2, g3, g4, g5, g6, c1, c2, c3, c4, c5, c6]
  simp [cnd_eq]
theorem wd_range {s : Sl} (h : SlR s) (hr : rightS s = true) : U64 (wd0 s) ∧ U64 (wd1 s) ∧ U64 (wd2 s) ∧ U64 (wd3 s) := by
  obtain ⟨q1, q2, q3, q4, q5⟩ := (rightS_iff h).1 hr
  have hr2 := rgt2 h q1
  obtain ⟨w1, w2⟩ := word_right h.a.1 h.a.2 hr2 q1
  obtain ⟨hk, hb, hrr, hg, hs, hal, hmod⟩ := right_ranges h.a.1 h.a.2 hr2 q1
  have ha := h.a.1
  refine ⟨?_, by rw [wd1_eq q1]; exact h.m, ?_, ?_⟩
  · have e0 : wd0 s = f164_14 s.k s.a s.b s.r s.g s.s s.m := rfl
    rw [e0, w1]
    unfold wordN U64
    omega
  · have h1 := h.x.1
    have h2 := h.p.1
    rw [wd2_eq h q2.1 q3.1]
    unfold U64
    omega
  · have : wd3 s = IntKind.u64.wrap s.d := rfl
    rw [this, wrap_u64_id (by omega) (by omega)]
    unfold U64
    omega
end Go.Sx.M

namespace Go.Sx.M
open Go Go.Sx Go.Proofs Go.RowKit
set_option maxRecDepth 100000
def pre29 (v : V29) : Prop := U64 v.at_
noncomputable def ldE (M : Mem) (a : Int) : Int := f29_24 ⟨a, M⟩
noncomputable def ld (M : Mem) (a : Int) : Sl := ⟨f29_14 ⟨a, M⟩, f29_15 ⟨a, M⟩, f29_16 ⟨a, M⟩, f29_17 ⟨a, M⟩, f29_18 ⟨a, M⟩, f29_19 ⟨a, M⟩, f29_20 ⟨a, M⟩, f29_21 ⟨a, M⟩, f29_22 ⟨a, M⟩, f29_23 ⟨a, M⟩⟩
theorem wrapR (x : Int) : 0 ≤ IntKind.u64.wrap x ∧ IntKind.u64.wrap x < 18446744073709551616 := by
  rw [wrap_u64]; omega
theorem n29 (v : V29) (h : pre29 v) : (f29 v).ok ∧ (f29 v).get.1 = .tup [.agg [.int .i64 (ld v.M v.at_).k, .int .u64 (ld v.M v.at_).a, .int .i64 (ld v.M v.at_).b, .int .i64 (ld v.M v.at_).r, .int .i64 (ld v.M v.at_).g, .int .i64 (ld v.M v.at_).s, .int .u64 (ld v.M v.at_).m, .int .u64 (ld v.M v.at_).x, .int .u64 (ld v.M v.at_).p, .int .i64 (ld v.M v.at_).d], .int .i64 (ldE v.M v.at_)] ∧ HOws (f29 v).get.2.1 [HO.res v.M] :=
  ⟨⟨fun _ => wrapR _, fun _ => wrapR _, fun _ => wrapR _, fun _ => wrapR _, trivial⟩, rfl, .refl _⟩
noncomputable def f29n (v : V29) : Tr (Fin th.R) := .need (pre29 v) (.leaf (.tup [.agg [.int .i64 (ld v.M v.at_).k, .int .u64 (ld v.M v.at_).a, .int .i64 (ld v.M v.at_).b, .int .i64 (ld v.M v.at_).r, .int .i64 (ld v.M v.at_).g, .int .i64 (ld v.M v.at_).s, .int .u64 (ld v.M v.at_).m, .int .u64 (ld v.M v.at_).x, .int .u64 (ld v.M v.at_).p, .int .i64 (ld v.M v.at_).d], .int .i64 (ldE v.M v.at_)], [.res v.M], []))
theorem s29n : Sound Try.prog th 29 (fnC d29 ofV29 f29n) := fnC_refine s29 fun v h => by
  obtain ⟨hp, _⟩ := h
  obtain ⟨a, b, c⟩ := n29 v hp
  exact ⟨a, b.symm, (qdd29 v).symm, c, by show 1 ≤ 1; decide⟩
noncomputable def nice29n : List (Nat × CF th.R) := (29, lift (fnC d29 ofV29 f29n)) :: niceph
theorem nok29n : NiceOk Try.prog th nice29n := ⟨lift_sound s29n, nokph⟩
end Go.Sx.M

namespace Go.Sx.M
open Go Go.Sx Go.Proofs Go.RowKit
set_option maxRecDepth 100000
def slOf (v : V91) : Sl := ⟨v.k, v.a, v.b, v.r, v.g, v.s, v.m, v.x, v.p, v.d⟩
def pre91 (v : V91) : Prop := U64 v.at_ ∧ SlR (slOf v)
noncomputable def stE (M : Mem) (a : Int) (z : Sl) : Int := f91_8 ⟨a, z.k, z.a, z.b, z.r, z.g, z.s, z.m, z.x, z.p, z.d, M⟩
noncomputable def stM (M : Mem) (a : Int) (z : Sl) : Mem := f91_9 ⟨a, z.k, z.a, z.b, z.r, z.g, z.s, z.m, z.x, z.p, z.d, M⟩
theorem n91 (v : V91) (h : pre91 v) : (f91 v).ok ∧ (f91 v).get.1 = .int .i64 (stE v.M v.at_ (slOf v)) ∧ HOws (f91 v).get.2.1 [HO.res (stM v.M v.at_ (slOf v))] := by
  have key : f91_11 v = false → U64 (wd0 (slOf v)) ∧ U64 (wd1 (slOf v)) ∧ U64 (wd2 (slOf v)) ∧ U64 (wd3 (slOf v)) := fun e => by
    refine wd_range h.2 ?_
    have e : (!rightS (slOf v)) = false := e
    simpa using e
  exact ⟨⟨fun _ e => ⟨wrapR _, (key e).1⟩, fun _ e => ⟨wrapR _, (key e).2.1⟩, fun _ e => ⟨wrapR _, (key e).2.2.1⟩, fun _ e => ⟨wrapR _, (key e).2.2.2⟩, trivial⟩, rfl, .refl _⟩
noncomputable def f91n (v : V91) : Tr (Fin th.R) := .need (pre91 v) (.leaf (.int .i64 (stE v.M v.at_ (slOf v)), [.res (stM v.M v.at_ (slOf v))], [0]))
theorem s91n : Sound Try.prog th 91 (fnC d91 ofV91 f91n) := fnC_refine s91 fun v h => by
  obtain ⟨hp, _⟩ := h
  obtain ⟨a, b, c⟩ := n91 v hp
  exact ⟨a, b.symm, (qdd91 v).symm, c, by show 1 ≤ 1; decide⟩
noncomputable def nice91n : List (Nat × CF th.R) := (91, lift (fnC d91 ofV91 f91n)) :: nice29n
theorem nok91n : NiceOk Try.prog th nice91n := ⟨lift_sound s91n, nok29n⟩
end Go.Sx.M

namespace Go.Sx.M
open Go Go.Sx
/-- Every word is one. -/
def MemR (M : Mem) : Prop := ∀ a, U64 (M.W a)
theorem cnd_ind {α : Type} {P : α → Prop} {c : Bool} {a b : α} (ha : P a) (hb : P b) : P (cnd c a b) := by cases c <;> assumption
theorem wrapI (x : Int) : I64 (IntKind.i64.wrap x) := by
  unfold I64
  simp only [IntKind.wrap, IntKind.bits, IntKind.signed, Bool.true_and]
  simp only [show ((2 : Int) ^ 64) = 18446744073709551616 from rfl, show ((2 : Int) ^ (64 - 1)) = 9223372036854775808 from rfl, decide_eq_true_eq, ge_iff_le]
  split <;> omega
theorem i0 : I64 0 := by unfold I64; omega
theorem u0 : U64 0 := by unfold U64; omega
theorem rd_ranges (a : Int) {b : Int} (hb : U64 b) : I64 (f100_3 a b) ∧ U64 (f100_4 a b) ∧ I64 (f100_5 a b) ∧ I64 (f100_6 a b) ∧ I64 (f100_7 a b) ∧ I64 (f100_8 a b) ∧ U64 (f100_9 a b) := by
  refine ⟨?_, ?_, ?_, ?_, ?_, ?_, ?_⟩
  · exact cnd_ind i0 (wrapI _)
  · exact cnd_ind u0 (wrapR _)
  · exact cnd_ind i0 (wrapI _)
  · exact cnd_ind i0 (wrapI _)
  · exact cnd_ind i0 (wrapI _)
  · exact cnd_ind i0 (wrapI _)
  · exact cnd_ind u0 hb
theorem ld_SlR {M : Mem} (h : MemR M) (a : Int) : SlR (ld M a) := by
  have hb : U64 (f29_37 ⟨a, M⟩) := h _
  obtain ⟨q1, q2, q3, q4, q5, q6, q7⟩ := rd_ranges (f29_36 ⟨a, M⟩) hb
  refine ⟨?_, ?_, ?_, ?_, ?_, ?_, ?_, ?_, ?_, ?_⟩
  · exact cnd_ind i0 (cnd_ind i0 (cnd_ind q1 q1))
  · exact cnd_ind u0 (cnd_ind u0 (cnd_ind q2 q2))
  · exact cnd_ind i0 (cnd_ind i0 (cnd_ind q3 q3))
  · exact cnd_ind i0 (cnd_ind i0 (cnd_ind q4 q4))
  · exact cnd_ind i0 (cnd_ind i0 (cnd_ind q5 q5))
  · exact cnd_ind i0 (cnd_ind i0 (cnd_ind q6 q6))
  · exact cnd_ind u0 (cnd_ind u0 (cnd_ind q7 q7))
  · exact cnd_ind u0 (cnd_ind u0 (cnd_ind (wrapR _) (wrapR _)))
  · exact cnd_ind u0 (cnd_ind u0 (cnd_ind (wrapR _) (wrapR _)))
  · exact cnd_ind i0 (cnd_ind i0 (cnd_ind (wrapI _) i0))
theorem wr_MemR {M : Mem} (h : MemR M) {a x : Int} (hx : U64 x) : MemR (wrM M a x) := by
  intro i
  show U64 (cnd _ (upd M.W a x) M.W i)
  have : cnd (decide (errI M.size a = 0)) (upd M.W a x) M.W i = cnd (decide (errI M.size a = 0)) (upd M.W a x i) (M.W i) := by
    cases decide (errI M.size a = 0) <;> rfl
  rw [this]
  exact cnd_ind (cnd_ind hx (h i)) (h i)
theorem mrg_ind {P : Mem → Prop} {c : Bool} {M N : Mem} (hM : c = true → P M) (hN : c = false → P N) : P (mrgM c M N) := by
  cases c with
  | true => exact hM rfl
  | false => exact hN rfl
theorem st_MemR {M : Mem} (h : MemR M) {z : Sl} (hz : SlR z) (a : Int) : MemR (stM M a z) := by
  refine mrg_ind (fun _ => h) fun _ => mrg_ind (fun _ => h) fun e => ?_
  have e : (!rightS z) = false := e
  obtain ⟨w0, w1, w2, w3⟩ := wd_range hz (by simpa using e)
  exact wr_MemR (wr_MemR (wr_MemR (wr_MemR h w0) w1) w2) w3
theorem st_size (M : Mem) (a : Int) (z : Sl) : (stM M a z).size = M.size :=
  mrg_ind (P := fun N => N.size = M.size) (fun _ => rfl) fun _ => mrg_ind (P := fun N => N.size = M.size) (fun _ => rfl) fun _ => rfl
/-- A slot with another link, capability, depth. -/
noncomputable def tX (M : Mem) (a y : Int) : Mem := mrgM (a == 0) M (stM M a { ld M a with x := y })
noncomputable def tP (M : Mem) (a y : Int) : Mem := mrgM (a == 0) M (stM M a { ld M a with p := y })
noncomputable def tC (M : Mem) (a : Int) (c : Sl) : Mem := mrgM (a == 0) M (stM M a { c with x := (ld M a).x, p := (ld M a).p, d := (ld M a).d })
noncomputable def tD (M : Mem) (a : Int) : Mem := mrgM (a == 0) M (stM M a { ld M a with d := IntKind.i64.wrap ((ld M a).d - 1) })
theorem SlR.setX {z : Sl} (h : SlR z) {y : Int} (hy : U64 y) : SlR { z with x := y } := ⟨h.k, h.a, h.b, h.r, h.g, h.s, h.m, hy, h.p, h.d⟩
theorem SlR.setP {z : Sl} (h : SlR z) {y : Int} (hy : U64 y) : SlR { z with p := y } := ⟨h.k, h.a, h.b, h.r, h.g, h.s, h.m, h.x, hy, h.d⟩
theorem SlR.setD {z : Sl} (h : SlR z) {y : Int} (hy : I64 y) : SlR { z with d := y } := ⟨h.k, h.a, h.b, h.r, h.g, h.s, h.m, h.x, h.p, hy⟩
theorem SlR.setC {z c : Sl} (h : SlR z) (hc : SlR c) : SlR { c with x := z.x, p := z.p, d := z.d } := ⟨hc.k, hc.a, hc.b, hc.r, hc.g, hc.s, hc.m, h.x, h.p, h.d⟩
theorem tX_MemR {M : Mem} (h : MemR M) {y : Int} (hy : U64 y) (a : Int) : MemR (tX M a y) := mrg_ind (fun _ => h) fun _ => (st_MemR h ((ld_SlR h a).setX hy) a)
theorem tP_MemR {M : Mem} (h : MemR M) {y : Int} (hy : U64 y) (a : Int) : MemR (tP M a y) := mrg_ind (fun _ => h) fun _ => (st_MemR h ((ld_SlR h a).setP hy) a)
theorem tC_MemR {M : Mem} (h : MemR M) {c : Sl} (hc : SlR c) (a : Int) : MemR (tC M a c) := mrg_ind (fun _ => h) fun _ => (st_MemR h ((ld_SlR h a).setC hc) a)
theorem tD_MemR {M : Mem} (h : MemR M) (a : Int) : MemR (tD M a) := mrg_ind (fun _ => h) fun _ => (st_MemR h ((ld_SlR h a).setD (wrapI _)) a)
/-- Two slots follow one another. -/
noncomputable def tieM (M : Mem) (a b : Int) : Mem := tP (tX M a b) b a
def tieF (f a b : Int) : Int := cnd (a == 0) b f
theorem tie_MemR {M : Mem} (h : MemR M) {a b : Int} (ha : U64 a) (hb : U64 b) : MemR (tieM M a b) := tP_MemR (tX_MemR h hb a) ha b
/-- A slot between two. -/
noncomputable def insM (M : Mem) (a b i : Int) (c : Sl) (d : Int) : Mem := tieM (tieM (stM M i { c with x := 0, p := 0, d := d }) a i) i b
def insF (f a b i : Int) : Int := tieF (tieF f a i) i b
theorem SlR.fresh {c : Sl} (h : SlR c) {d : Int} (hd : I64 d) : SlR { c with x := 0, p := 0, d := d } := ⟨h.k, h.a, h.b, h.r, h.g, h.s, h.m, u0, u0, hd⟩
theorem ins_MemR {M : Mem} (h : MemR M) {a b i : Int} (ha : U64 a) (hb : U64 b) (hi : U64 i) {c : Sl} (hc : SlR c) {d : Int} (hd : I64 d) : MemR (insM M a b i c d) :=
  tie_MemR (tie_MemR (st_MemR h (hc.fresh hd) i) ha hi) hi hb
theorem tX_size (M : Mem) (a y : Int) : (tX M a y).size = M.size := mrg_ind (P := fun N => N.size = M.size) (fun _ => rfl) fun _ => st_size _ _ _
theorem tP_size (M : Mem) (a y : Int) : (tP M a y).size = M.size := mrg_ind (P := fun N => N.size = M.size) (fun _ => rfl) fun _ => st_size _ _ _
theorem tC_size (M : Mem) (a : Int) (c : Sl) : (tC M a c).size = M.size := mrg_ind (P := fun N => N.size = M.size) (fun _ => rfl) fun _ => st_size _ _ _
theorem tD_size (M : Mem) (a : Int) : (tD M a).size = M.size := mrg_ind (P := fun N => N.size = M.size) (fun _ => rfl) fun _ => st_size _ _ _
theorem tie_size (M : Mem) (a b : Int) : (tieM M a b).size = M.size := (tP_size _ _ _).trans (tX_size _ _ _)
theorem ins_size (M : Mem) (a b i : Int) (c : Sl) (d : Int) : (insM M a b i c d).size = M.size := (tie_size _ _ _).trans ((tie_size _ _ _).trans (st_size _ _ _))
/-- The errors of a slot that should be there, and of one that should be empty. -/
noncomputable def hdE (M : Mem) (a : Int) : Int := cnd (ldE M a != 0) (ldE M a) (cnd ((ld M a).k == 0) 14 0)
noncomputable def frE (M : Mem) (a : Int) : Int := cnd (ldE M a != 0) (ldE M a) (cnd (a == 0) 12 (cnd ((ld M a).k != 0) 16 0))
theorem cnd_same {α : Type} (c : Bool) (a : α) : cnd c a a = a := by cases c <;> rfl
noncomputable def dpE (M : Mem) (a : Int) : Int := cnd (hdE M a != 0) (-1) (ld M a).d
def mayC (c : Sl) : Int := f178_0 c.k c.a c.b c.r c.g c.s c.m
noncomputable def ftE (M : Mem) (n a : Int) (c : Sl) : Int := cnd (frE M a != 0) (frE M a) (cnd (mayC c != 0) (mayC c) (cnd (decide (n ≥ 65536)) 15 0))
end Go.Sx.M

namespace Go.Sx.M
open Go Go.Sx
/-- A tree: its memory, the first slot, how many there are. -/
structure TS where
  M : Mem
  f : Int
  c : Int
def TR (t : TS) : Prop := MemR t.M ∧ U64 t.f ∧ I64 t.c
theorem tieF_U {f a b : Int} (hf : U64 f) (hb : U64 b) : U64 (tieF f a b) := cnd_ind hb hf
theorem insF_U {f a b i : Int} (hf : U64 f) (hb : U64 b) (hi : U64 i) : U64 (insF f a b i) := tieF_U (tieF_U hf hi) hb
noncomputable def rtE (t : TS) (a : Int) (z : Sl) : Int := cnd (ftE t.M t.c a z != 0) (ftE t.M t.c a z) 0
noncomputable def rtT (t : TS) (a : Int) (z : Sl) : TS := ⟨mrgM (ftE t.M t.c a z != 0) t.M (insM t.M 0 t.f a z 0), cnd (ftE t.M t.c a z != 0) t.f (insF t.f 0 t.f a), cnd (ftE t.M t.c a z != 0) t.c (IntKind.i64.wrap (t.c + 1))⟩
theorem rtT_R {t : TS} (h : TR t) {a : Int} (ha : U64 a) {z : Sl} (hz : SlR z) : TR (rtT t a z) :=
  ⟨mrg_ind (fun _ => h.1) fun _ => ins_MemR h.1 u0 h.2.1 ha hz i0, cnd_ind h.2.1 (insF_U h.2.1 h.2.1 ha), cnd_ind h.2.2 (wrapI _)⟩
noncomputable def chE (t : TS) (p a : Int) (z : Sl) : Int := cnd (hdE t.M p != 0) (hdE t.M p) (cnd (ftE t.M t.c a z != 0) (ftE t.M t.c a z) (cnd (decide ((ld t.M p).d ≥ 4096)) 42 0))
noncomputable def chT (t : TS) (p a : Int) (z : Sl) : TS :=
  ⟨mrgM (hdE t.M p != 0) t.M (mrgM (ftE t.M t.c a z != 0) t.M (mrgM (decide ((ld t.M p).d ≥ 4096)) t.M (insM t.M p (ld t.M p).x a z (IntKind.i64.wrap ((ld t.M p).d + 1))))),
    cnd (hdE t.M p != 0) t.f (cnd (ftE t.M t.c a z != 0) t.f (cnd (decide ((ld t.M p).d ≥ 4096)) t.f (insF t.f p (ld t.M p).x a))),
    cnd (hdE t.M p != 0) t.c (cnd (ftE t.M t.c a z != 0) t.c (cnd (decide ((ld t.M p).d ≥ 4096)) t.c (IntKind.i64.wrap (t.c + 1))))⟩
theorem chT_R {t : TS} (h : TR t) {p a : Int} (hp : U64 p) (ha : U64 a) {z : Sl} (hz : SlR z) : TR (chT t p a z) :=
  ⟨mrg_ind (fun _ => h.1) fun _ => mrg_ind (fun _ => h.1) fun _ => mrg_ind (fun _ => h.1) fun _ => ins_MemR h.1 hp (ld_SlR h.1 _).x ha hz (wrapI _),
    cnd_ind h.2.1 (cnd_ind h.2.1 (cnd_ind h.2.1 (insF_U h.2.1 (ld_SlR h.1 _).x ha))), cnd_ind h.2.2 (cnd_ind h.2.2 (cnd_ind h.2.2 (wrapI _)))⟩
noncomputable def seE (t : TS) (a : Int) (z : Sl) : Int := cnd (hdE t.M a != 0) (hdE t.M a) (cnd (mayC z != 0) (mayC z) 0)
noncomputable def seT (t : TS) (a : Int) (z : Sl) : TS := ⟨mrgM (hdE t.M a != 0) t.M (mrgM (mayC z != 0) t.M (tC t.M a z)), t.f, t.c⟩
theorem seT_R {t : TS} (h : TR t) {a : Int} {z : Sl} (hz : SlR z) : TR (seT t a z) := ⟨mrg_ind (fun _ => h.1) fun _ => mrg_ind (fun _ => h.1) fun _ => tC_MemR h.1 hz _, h.2⟩
noncomputable def mvM (t : TS) (a b : Int) : Mem := stM (stM t.M a sl0) b (ld t.M a)
noncomputable def mvE (t : TS) (a b : Int) : Int := cnd (hdE t.M a != 0) (hdE t.M a) (cnd (frE t.M b != 0) (frE t.M b) 0)
noncomputable def mvT (t : TS) (a b : Int) : TS :=
  ⟨mrgM (hdE t.M a != 0) t.M (mrgM (frE t.M b != 0) t.M (tieM (tieM (mvM t a b) (ld t.M a).p b) b (ld t.M a).x)),
    cnd (hdE t.M a != 0) t.f (cnd (frE t.M b != 0) t.f (tieF (tieF t.f (ld t.M a).p b) b (ld t.M a).x)), t.c⟩
theorem sl0_R : SlR sl0 := ⟨i0, u0, i0, i0, i0, i0, u0, u0, u0, i0⟩
theorem mvM_R {t : TS} (h : TR t) (a b : Int) : MemR (mvM t a b) := st_MemR (st_MemR h.1 sl0_R _) (ld_SlR h.1 _) _
theorem mvT_R {t : TS} (h : TR t) {a b : Int} (hb : U64 b) : TR (mvT t a b) :=
  ⟨mrg_ind (fun _ => h.1) fun _ => mrg_ind (fun _ => h.1) fun _ => tie_MemR (tie_MemR (mvM_R h a b) (ld_SlR h.1 _).p hb) hb (ld_SlR h.1 _).x,
    cnd_ind h.2.1 (cnd_ind h.2.1 (tieF_U (tieF_U h.2.1 hb) (ld_SlR h.1 _).x)), h.2.2⟩
noncomputable def swM0 (t : TS) (a b : Int) : Mem := stM (stM t.M a (ld t.M b)) b (ld t.M a)
noncomputable def swM1 (t : TS) (a b : Int) : Mem := tieM (swM0 t a b) (f180_0 (ld t.M a).p a b) b
noncomputable def swM2 (t : TS) (a b : Int) : Mem := tieM (swM1 t a b) b (f180_0 (ld t.M a).x a b)
noncomputable def swM3 (t : TS) (a b : Int) : Mem := tieM (swM2 t a b) (f180_0 (ld t.M b).p a b) a
noncomputable def swM4 (t : TS) (a b : Int) : Mem := tieM (swM3 t a b) a (f180_0 (ld t.M b).x a b)
noncomputable def swF1 (t : TS) (a b : Int) : Int := tieF t.f (f180_0 (ld t.M a).p a b) b
noncomputable def swF2 (t : TS) (a b : Int) : Int := tieF (swF1 t a b) b (f180_0 (ld t.M a).x a b)
noncomputable def swF3 (t : TS) (a b : Int) : Int := tieF (swF2 t a b) (f180_0 (ld t.M b).p a b) a
noncomputable def swF4 (t : TS) (a b : Int) : Int := tieF (swF3 t a b) a (f180_0 (ld t.M b).x a b)
noncomputable def swE (t : TS) (a b : Int) : Int := cnd (hdE t.M a != 0) (hdE t.M a) (cnd (cnd (hdE t.M b != 0) true (a == b)) (hdE t.M b) 0)
noncomputable def swT (t : TS) (a b : Int) : TS :=
  ⟨mrgM (hdE t.M a != 0) t.M (mrgM (cnd (hdE t.M b != 0) true (a == b)) t.M (swM4 t a b)), cnd (hdE t.M a != 0) t.f (cnd (cnd (hdE t.M b != 0) true (a == b)) t.f (swF4 t a b)), t.c⟩
theorem oth_U {x a b : Int} (hx : U64 x) (ha : U64 a) (hb : U64 b) : U64 (f180_0 x a b) := by
  unfold f180_0
  first
  | exact cnd_ind hb (cnd_ind ha hx)
  | exact cnd_ind ha (cnd_ind hb hx)
theorem swM0_R {t : TS} (h : TR t) {a b : Int} (ha : U64 a) (hb : U64 b) : MemR (swM0 t a b) := st_MemR (st_MemR h.1 (ld_SlR h.1 _) _) (ld_SlR h.1 _) _
theorem swM1_R {t : TS} (h : TR t) {a b : Int} (ha : U64 a) (hb : U64 b) : MemR (swM1 t a b) := tie_MemR (swM0_R h ha hb) (oth_U (ld_SlR h.1 _).p ha hb) hb
theorem swM2_R {t : TS} (h : TR t) {a b : Int} (ha : U64 a) (hb : U64 b) : MemR (swM2 t a b) := tie_MemR (swM1_R h ha hb) hb (oth_U (ld_SlR h.1 _).x ha hb)
theorem swM3_R {t : TS} (h : TR t) {a b : Int} (ha : U64 a) (hb : U64 b) : MemR (swM3 t a b) := tie_MemR (swM2_R h ha hb) (oth_U (ld_SlR h.1 _).p ha hb) ha
theorem swM4_R {t : TS} (h : TR t) {a b : Int} (ha : U64 a) (hb : U64 b) : MemR (swM4 t a b) := tie_MemR (swM3_R h ha hb) ha (oth_U (ld_SlR h.1 _).x ha hb)
theorem swF1_U {t : TS} (h : TR t) {a b : Int} (ha : U64 a) (hb : U64 b) : U64 (swF1 t a b) := tieF_U h.2.1 hb
theorem swF2_U {t : TS} (h : TR t) {a b : Int} (ha : U64 a) (hb : U64 b) : U64 (swF2 t a b) := tieF_U (swF1_U h ha hb) (oth_U (ld_SlR h.1 _).x ha hb)
theorem swF3_U {t : TS} (h : TR t) {a b : Int} (ha : U64 a) (hb : U64 b) : U64 (swF3 t a b) := tieF_U (swF2_U h ha hb) ha
theorem swF4_U {t : TS} (h : TR t) {a b : Int} (ha : U64 a) (hb : U64 b) : U64 (swF4 t a b) := tieF_U (swF3_U h ha hb) (oth_U (ld_SlR h.1 _).x ha hb)
theorem swT_R {t : TS} (h : TR t) {a b : Int} (ha : U64 a) (hb : U64 b) : TR (swT t a b) :=
  ⟨mrg_ind (fun _ => h.1) fun _ => mrg_ind (fun _ => h.1) fun _ => swM4_R h ha hb, cnd_ind h.2.1 (cnd_ind h.2.1 (swF4_U h ha hb)), h.2.2⟩
noncomputable def brB (M : Mem) (a : Int) : Bool := cnd (cnd (hdE M a != 0) true ((ld M a).x == 0)) true (decide (dpE M (ld M a).x ≤ (ld M a).d))
end Go.Sx.M

namespace Go.Sx.M
open Go Go.Sx Go.Proofs Go.RowKit
theorem cndB {α : Type} (c : Bool) (a b : α) : cnd c a b = if c = true then a else b := by cases c <;> rfl
theorem beqT {j k : Nat} : (Nat.beq j k = true) = (j = k) := propext ⟨Nat.eq_of_beq_eq_true, fun h => by subst h; simp⟩
theorem bltT {j k : Nat} : (Nat.blt j k = true) = (j < k) := propext (by simp [Nat.blt_eq])
theorem cnd_neg (c : Bool) : cnd c false true = !c := by cases c <;> rfl
theorem cnd_and (c d : Bool) : cnd c d false = (c && d) := by cases c <;> rfl
theorem cnd_or (c d : Bool) : cnd c true d = (c || d) := by cases c <;> rfl
theorem cnd_id (c : Bool) : cnd c true false = c := by cases c <;> rfl
theorem wi {x : Int} (h1 : -9223372036854775808 ≤ x) (h2 : x < 9223372036854775808) : IntKind.i64.wrap x = x := wrap_i64 h1 h2
/-- A loop by an invariant, a measure, and what holds at its end. -/
theorem LT.post {R S : Type} [Inhabited S] {f : S → Tr (Rs R S)} (V Q : S → Prop) (μ : S → Nat)
    (h : ∀ s, V s → (f s).ok ∧ (((∃ ex sl hp, (f s).get = .out ex sl hp) ∧ Q s) ∨ ∃ s', (f s).get = .on s' ∧ V s' ∧ μ s' < μ s)) {s : S} (hs : V s) : LT f s ∧ Q (lastS f s) := by
  generalize hm : μ s = m
  induction m using Nat.strongRecOn generalizing s with
  | ind m ih =>
    obtain ⟨h1, ⟨⟨ex, sl, hp, h2⟩, h5⟩ | ⟨s', h2, h3, h4⟩⟩ := h s hs
    · exact ⟨.out h1 h2, by rw [lastS_out h2]; exact h5⟩
    · obtain ⟨a, b⟩ := ih (μ s') (by omega) h3 rfl
      exact ⟨.on h1 h2 a, by rw [lastS_on h2]; exact b⟩
/-- A node of the reference's tree: its slot, its capability, its depth. -/
structure Nd where
  t : Int
  k : Int
  a : Int
  b : Int
  r : Int
  g : Int
  s : Int
  m : Int
  d : Int
deriving DecidableEq
def nd0 : Nd := ⟨0, 0, 0, 0, 0, 0, 0, 0, 0⟩
def ndC (x : Nd) : List SV := [.int .u64 x.t, .int .i64 x.k, .int .u64 x.a, .int .i64 x.b, .int .i64 x.r, .int .i64 x.g, .int .i64 x.s, .int .u64 x.m, .int .i64 x.d]
def ndf (t k a b r g s m d : Nat → Int) (j : Nat) : Nd := ⟨t j, k j, a j, b j, r j, g j, s j, m j, d j⟩
def nds (f : Nat → Nd) (L : Nat) : List Nd := (List.range L).map f
def gN (l : List Nd) (j : Nat) : Nd := l.getD j nd0
theorem nds_len (f : Nat → Nd) (L : Nat) : (nds f L).length = L := by simp [nds]
theorem nds_get {f : Nat → Nd} {L j : Nat} (h : j < L) : (nds f L)[j]? = some (f j) := by simp [nds, List.getElem?_map, List.getElem?_range h]
theorem gN_nds {f : Nat → Nd} {L j : Nat} (h : j < L) : gN (nds f L) j = f j := by simp [gN, List.getD, nds_get h]
theorem nds_gN (l : List Nd) : nds (gN l) l.length = l := by
  apply List.ext_getElem?
  intro j
  by_cases h : j < l.length
  · rw [nds_get h]; simp [gN, List.getD, List.getElem?_eq_getElem h]
  · rw [List.getElem?_eq_none (by rw [nds_len]; omega), List.getElem?_eq_none (by omega)]
theorem nds_congr {f g : Nat → Nd} {L : Nat} (h : ∀ j, j < L → f j = g j) : nds f L = nds g L := by
  apply List.ext_getElem?
  intro j
  by_cases hj : j < L
  · rw [nds_get hj, nds_get hj, h j hj]
  · rw [List.getElem?_eq_none (by rw [nds_len]; omega), List.getElem?_eq_none (by rw [nds_len]; omega)]
/-- The place of a slot's node, or -1. -/
def fnd (l : List Nd) (a : Int) : Int := match l.findIdx? (fun x => x.t == a) with
  | some i => (i : Int)
  | none => -1
theorem fnd_at {f : Nat → Nd} {L i : Nat} {a : Int} (h1 : i < L) (h2 : (f i).t = a) (h3 : ∀ j, j < i → (f j).t ≠ a) : fnd (nds f L) a = i := by
  have : (nds f L).findIdx? (fun x => x.t == a) = some i := by
    rw [List.findIdx?_eq_some_iff_getElem]
    refine ⟨by rw [nds_len]; exact h1, by simp [nds, h2], fun j hj => ?_⟩
    have := h3 j hj
    simp [nds, this]
  rw [fnd, this]
theorem fnd_none {f : Nat → Nd} {L : Nat} {a : Int} (h3 : ∀ j, j < L → (f j).t ≠ a) : fnd (nds f L) a = -1 := by
  have : (nds f L).findIdx? (fun x => x.t == a) = none := by
    rw [List.findIdx?_eq_none_iff]
    intro x hx
    simp only [nds, List.mem_map, List.mem_range] at hx
    obtain ⟨j, hj, rfl⟩ := hx
    have := h3 j hj
    simp [this]
  rw [fnd, this]
theorem fnd_cases (f : Nat → Nd) (L : Nat) (a : Int) : (∃ i : Nat, i < L ∧ (f i).t = a ∧ (∀ j, j < i → (f j).t ≠ a) ∧ fnd (nds f L) a = i) ∨ ((∀ j, j < L → (f j).t ≠ a) ∧ fnd (nds f L) a = -1) := by
  by_cases h : ∃ i, i < L ∧ (f i).t = a
  · have hx : ∃ i, i < L ∧ (f i).t = a ∧ ∀ j, j < i → (f j).t ≠ a := by
      obtain ⟨i, h1, h2⟩ := h
      induction i using Nat.strongRecOn with
      | ind i ih =>
        by_cases hj : ∃ j, j < i ∧ (f j).t = a
        · obtain ⟨j, k1, k2⟩ := hj
          exact ih j k1 (by omega) k2
        · exact ⟨i, h1, h2, fun j k1 k2 => hj ⟨j, k1, k2⟩⟩
    obtain ⟨i, h1, h2, h3⟩ := hx
    exact .inl ⟨i, h1, h2, h3, fnd_at h1 h2 h3⟩
  · have h3 : ∀ j, j < L → (f j).t ≠ a := fun j k1 k2 => h ⟨j, k1, k2⟩
    exact .inr ⟨h3, fnd_none h3⟩
theorem fnd_lt (f : Nat → Nd) (L : Nat) (a : Int) : -1 ≤ fnd (nds f L) a ∧ fnd (nds f L) a < L := by
  rcases fnd_cases f L a with ⟨i, h1, _, _, h2⟩ | ⟨_, h2⟩ <;> omega
/-- One more node at a place. -/
def putN (l : List Nd) (i : Nat) (x : Nd) : List Nd := l.take i ++ x :: l.drop i
theorem putN_len (l : List Nd) (i : Nat) (x : Nd) : (putN l i x).length = l.length + 1 := by simp [putN]; omega
theorem gN_put {l : List Nd} {i : Nat} {x : Nd} (hi : i ≤ l.length) (j : Nat) : gN (putN l i x) j = if j < i then gN l j else if j = i then x else gN l (j - 1) := by
  unfold gN putN
  simp only [List.getD_eq_getElem?_getD]
  by_cases h1 : j < i
  · rw [if_pos h1, List.getElem?_append_left (by rw [List.length_take]; omega), List.getElem?_take_of_lt h1]
  · rw [if_neg h1, List.getElem?_append_right (by rw [List.length_take]; omega), List.length_take, show min i l.length = i by omega]
    by_cases h2 : j = i
    · subst h2; simp
    · rw [if_neg h2, show j - i = (j - 1 - i) + 1 by omega, List.getElem?_cons_succ, List.getElem?_drop, show i + (j - 1 - i) = j - 1 by omega]
/-- The nodes as a row. -/
def rowN {R : Type} (l : List Nd) : HO R := .row 100 9 l.length (fun j => ndC (gN l j))
theorem rowN_of {R : Type} {len : Nat} {el : Nat → List SV} {l : List Nd} (h1 : len = l.length) (h2 : ∀ i, i < len → el i = ndC (gN l i)) : HOw (.row 100 9 len el : HO R) (rowN l) := by
  subst h1
  exact .row h2
theorem rowA {R : Type} {t k a b r g s m d : Nat → Int} {L Q : Nat} (h : Q = L) :
    HOw (.row 100 9 Q (fun j => [.int .u64 (t j), .int .i64 (k j), .int .u64 (a j), .int .i64 (b j), .int .i64 (r j), .int .i64 (g j), .int .i64 (s j), .int .u64 (m j), .int .i64 (d j)]) : HO R) (rowN (nds (ndf t k a b r g s m d) L)) :=
  rowN_of (by rw [nds_len]; exact h) fun i hi => by rw [gN_nds (by omega)]; rfl
/-- The document's answers. -/
def mayT (z a : Int) : Int := cnd (a.tmod 32 != 0) 13 (cnd (decide (a ≥ z)) 12 0)
def frT (z : Int) (l : List Nd) (a : Int) : Int := cnd (mayT z a != 0) (mayT z a) (cnd (a == 0) 12 (cnd (decide (fnd l a ≥ 0)) 16 0))
def hdT (z : Int) (l : List Nd) (a : Int) : Int := cnd (cnd (mayT z a == 0) (decide (fnd l a < 0)) false) 14 (mayT z a)
def badC (x : Nd) : Bool := cnd (!f50_2 x.k x.a x.b x.r x.g x.s x.m) true (x.k == 0)
def ftT (z : Int) (l : List Nd) (x : Nd) : Int := cnd (frT z l x.t != 0) (frT z l x.t) (cnd (badC x) 10 (cnd (decide ((l.length : Int) ≥ 65536)) 15 0))
def rtL (z : Int) (l : List Nd) (x : Nd) : List Nd := cnd (ftT z l x != 0) l (putN l 0 x)
def rtR (z : Int) (l : List Nd) (x : Nd) : Int := cnd (ftT z l x != 0) (ftT z l x) 0
/-- The node of a slot. -/
def atN (l : List Nd) (a : Int) : Nd := gN l (fnd l a).toNat
def chR (z : Int) (l : List Nd) (p : Int) (x : Nd) : Int := cnd (hdT z l p != 0) (hdT z l p) (cnd (ftT z l x != 0) (ftT z l x) (cnd (decide ((atN l p).d ≥ 4096)) 42 0))
def chL (z : Int) (l : List Nd) (p : Int) (x : Nd) : List Nd := cnd (hdT z l p != 0) l (cnd (ftT z l x != 0) l (cnd (decide ((atN l p).d ≥ 4096)) l
  (putN l ((fnd l p).toNat + 1) { x with d := IntKind.i64.wrap ((atN l p).d + 1) })))
def slN (x : Nd) : Sl := ⟨x.k, x.a, x.b, x.r, x.g, x.s, x.m, 0, 0, 0⟩
/-- A tree of roots, and the document's. -/
noncomputable def opStep (s : TS × List Nd) (x : Nd) : TS × List Nd := (rtT s.1 x.t (slN x), rtL 65536 s.2 x)
noncomputable def op0 : TS × List Nd := (⟨newM 65536, 0, 0⟩, [])
noncomputable def opS (l : List Nd) : TS × List Nd := l.foldl opStep op0
theorem nds_succ (f : Nat → Nd) (i : Nat) : nds f (i + 1) = nds f i ++ [f i] := by simp [nds, List.range_succ]
theorem opS_succ (f : Nat → Nd) (i : Nat) : opS (nds f (i + 1)) = opStep (opS (nds f i)) (f i) := by rw [nds_succ]; simp [opS]
theorem newM_R (n : Int) : MemR (newM n) := fun a => u0
theorem op0_R : TR op0.1 := ⟨newM_R _, u0, i0⟩
theorem opS_R (f : Nat → Nd) : ∀ (i : Nat), (∀ j, j < i → U64 (f j).t ∧ SlR (slN (f j))) → TR (opS (nds f i)).1
  | 0, _ => op0_R
  | i + 1, h => by
    rw [opS_succ]
    exact rtT_R (opS_R f i fun j hj => h j (by omega)) (h i (by omega)).1 (h i (by omega)).2
theorem rtL_len (z : Int) (l : List Nd) (x : Nd) : (rtL z l x).length ≤ l.length + 1 := by
  unfold rtL
  cases (ftT z l x != 0)
  · exact Nat.le_of_eq (putN_len _ _ _)
  · exact Nat.le_succ _
theorem opS_len (f : Nat → Nd) : ∀ (i : Nat), (opS (nds f i)).2.length ≤ i
  | 0 => Nat.le_refl _
  | i + 1 => by
    rw [opS_succ]
    exact Nat.le_trans (rtL_len _ _ _) (Nat.succ_le_succ (opS_len f i))
theorem ndf_gN (l : List Nd) : nds (ndf (fun j => (gN l j).t) (fun j => (gN l j).k) (fun j => (gN l j).a) (fun j => (gN l j).b) (fun j => (gN l j).r) (fun j => (gN l j).g) (fun j => (gN l j).s) (fun j => (gN l j).m) (fun j => (gN l j).d)) l.length = l := nds_gN l
end Go.Sx.M

section
namespace Go.Sx.M
open Go Go.Sx Go.Proofs Go.RowKit
def ls (F : Nat → Int) (n : Nat) : List Int := (List.range n).map F
theorem ls_len (F : Nat → Int) (n : Nat) : (ls F n).length = n := by simp [ls]
theorem ls_push (F : Nat → Int) (n : Nat) (x : Int) : ls (fun j => cnd (Nat.blt j n) (F j) x) (n + 1) = ls F n ++ [x] := by
  unfold ls
  rw [List.range_succ, List.map_append]
  congr 1
  · apply List.map_congr_left
    intro j hj
    rw [List.mem_range] at hj
    have : Nat.blt j n = true := by simp [hj]
    rw [this]
    rfl
  · have : Nat.blt n n = false := by
      cases hh : Nat.blt n n with
      | false => rfl
      | true => rw [bltT] at hh; omega
    show [cnd (Nat.blt n n) (F n) x] = [x]
    rw [this]
    rfl
/-- A row of numbers out of a list. -/
theorem rowL {R : Type} {F : Nat → Int} {N n : Nat} {l : List Int} (h : N = n) (hl : ls F n = l) : HOw (.row 22 1 N (fun j => [.int .u64 (F j)]) : HO R) (.row 22 1 l.length (fun j => [.int .u64 (l.getD j 0)])) := by
  subst hl h
  rw [ls_len]
  refine .row fun j hj => ?_
  simp [ls, List.getD, hj]
end Go.Sx.M

end

section
namespace Go.Sx.M
open Go Go.Sx Go.Sort
/-! ### A row as an array -/
def ar (F : Nat → Int) (n : Nat) : Array Int := ((List.range n).map F).toArray
def gt (d : Array Int) (j : Nat) : Int := d[j]!
theorem ar_size (F : Nat → Int) (n : Nat) : (ar F n).size = n := by simp [ar]
theorem ar_get {F : Nat → Int} {n i : Nat} (h : i < n) : (ar F n)[i]! = F i := by
  have : i < (ar F n).size := by rw [ar_size]; exact h
  rw [getElem!_pos (ar F n) i this]
  simp [ar]
theorem ar_ext {F G : Nat → Int} {n : Nat} (h : ∀ i, i < n → F i = G i) : ar F n = ar G n := by
  unfold ar
  congr 1
  apply List.map_congr_left
  intro i hi
  exact h i (List.mem_range.1 hi)
theorem ar_gt (d : Array Int) : ar (gt d) d.size = d := by
  apply Array.ext
  · rw [ar_size]
  · intro i h1 h2
    rw [ar_size] at h1
    rw [← getElem!_pos (ar (gt d) d.size) i (by rw [ar_size]; exact h1), ar_get h1]
    unfold gt
    rw [getElem!_pos d i h1]
theorem gt_ar {F : Nat → Int} {n i : Nat} (h : i < n) : gt (ar F n) i = F i := ar_get h
def swF (F : Nat → Int) (i j : Nat) : Nat → Int := fun k => cnd (Nat.beq k j) (F i) (cnd (Nat.beq k i) (F j) (F k))
theorem ar_swp {F : Nat → Int} {n i j : Nat} (hi : i < n) (hj : j < n) : swp (ar F n) i j = ar (swF F i j) n := by
  unfold swp
  rw [ar_get hi, ar_get hj]
  apply Array.ext
  · simp [ar_size]
  · intro k h1 h2
    rw [ar_size] at h2
    rw [← getElem!_pos (ar (swF F i j) n) k (by rw [ar_size]; exact h2), ar_get h2]
    have h3 : k < (ar F n).size := by rw [ar_size]; exact h2
    rw [Array.getElem_setIfInBounds (by simpa using h3), Array.getElem_setIfInBounds h3]
    have h4 : (ar F n)[k] = F k := by rw [← getElem!_pos (ar F n) k h3, ar_get h2]
    unfold swF
    by_cases e1 : j = k
    · subst e1
      have : Nat.beq j j = true := by simp
      rw [this]; simp [cnd]
    · have q1 : Nat.beq k j = false := by
        cases hq : Nat.beq k j with
        | false => rfl
        | true => exact absurd (Nat.eq_of_beq_eq_true hq).symm e1
      rw [if_neg e1, q1]
      by_cases e2 : i = k
      · subst e2
        have : Nat.beq i i = true := by simp
        rw [this]; simp [cnd]
      · have q2 : Nat.beq k i = false := by
          cases hq : Nat.beq k i with
          | false => rfl
          | true => exact absurd (Nat.eq_of_beq_eq_true hq).symm e2
        rw [if_neg e2, q2, h4]
        simp [cnd]
theorem HOw_ar {R : Type} {F : Nat → Int} {N n : Nat} {d : Array Int} (h : N = n) (hd : ar F n = d) : HOw (.row 22 1 N (fun j => [.int .u64 (F j)]) : HO R) (.row 22 1 n (fun j => [.int .u64 (gt d j)])) := by
  subst h hd
  exact .row fun j hj => by rw [gt_ar hj]
theorem lt_ar {F : Nat → Int} {n i j : Nat} (hi : i < n) (hj : j < n) : ltInt (ar F n)[i]! (ar F n)[j]! = decide (F i < F j) := by
  rw [ar_get hi, ar_get hj]; rfl
end Go.Sx.M

end

namespace Go.Sx.M
open Go Go.Sx Go.Proofs Go.RowKit
set_option maxRecDepth 100000
def pre204 (v : V204) : Prop := True
theorem n204 (v : V204) (h : pre204 v) : (f204 v).ok ∧ (f204 v).get.1 = .bool (decide (v.x < v.y)) ∧ HOws (f204 v).get.2.1 [] := by
  refine ⟨trivial, ?_, .refl _⟩
  simp only [f204, Tr.get, f204_0, f219_0]
  simp [cnd]
noncomputable def f204n (v : V204) : Tr (Fin th.R) := .need (pre204 v) (.leaf (.bool (decide (v.x < v.y)), [], []))
theorem s204n : Sound Try.prog th 204 (fnC d204 ofV204 f204n) := fnC_refine s204 fun v h => by
  obtain ⟨hp, _⟩ := h
  obtain ⟨a, b, c⟩ := n204 v hp
  exact ⟨a, b.symm, (qdd204 v).symm, c, by show 0 ≤ 0; decide⟩
theorem claw204 (v : V204) : fnC d204 ofV204 f204n (A204 v) (H204 v) = some ((f204n v).map (fixF (H204 v))) := by kernel_rfl
noncomputable def nice204n : List (Nat × CF th.R) := (204, lift (fnC d204 ofV204 f204n)) :: nice219
theorem nok204n : NiceOk Try.prog th nice204n := ⟨lift_sound s204n, nok219⟩
end Go.Sx.M

namespace Go.Sx.M
open Go Go.Sx Go.Proofs Go.RowKit
set_option maxRecDepth 100000
structure V198 where
  L : Nat
  a : Int
  b : Int
  Q : Nat
  F : Nat → Int
def A198 (v : V198) : List SV := [.slc 0 1 0 v.L, .int .i64 v.a, .int .i64 v.b]
def H198 (v : V198) : List (HO th.R) := [.row 22 1 v.Q (fun j => [.int .u64 (v.F j)])]
def toV198 (v : V198) : List (Vl th.R) := [.n v.L, .i v.a, .i v.b, .n v.Q, .c v.F]
def ofV198 : List (Vl th.R) → Option V198
  | [.n L, .i a, .i b, .n Q, .c F] => some ⟨L, a, b, Q, F⟩
  | _ => none
def d198 : Ft := ⟨[.slc0 0 1, .int .i64, .int .i64], [.rowc 22 [.int .u64]]⟩
structure P198_1 where
  n0 : Nat
  x1 : Int
  x2 : Int
  x6 : Int
  N0 : Nat
structure S198_1 where
  x7 : Int
  F0_0 : Nat → Int
noncomputable instance : Inhabited S198_1 := ⟨⟨0, fun _ => 0⟩⟩
def I198_1 (p : P198_1) (s : S198_1) : St th.R := ⟨[some (.slc 0 1 0 p.n0), some (.int .i64 p.x1), some (.int .i64 p.x2), none, none, none, some (.int .i64 p.x6), some (.int .i64 s.x7), none, none, none, none, none, none, none, none, none, none, none, none, none, none, none, none, none, none, none, none, none, none, none, none, none, none, none, none, none, none, none, none, none, none, none, none, none, none, none, none, none], [.row 22 1 p.N0 (fun j => [.int .u64 (s.F0_0 j)])], [], []⟩
def d198_1 : Lp := ⟨⟨49, [(0, .slc0 0 1), (1, .int .i64), (2, .int .i64), (6, .int .i64), (7, .int .i64)], [.rowc 22 [.int .u64]]⟩, [], 1, [0], [0, 1, 2, 6, 20, 21, 22, 23, 24, 25, 26, 27, 28, 29], []⟩
def toV198_1 (p : P198_1) (s : S198_1) : List (Vl th.R) := [.n p.n0, .i p.x1, .i p.x2, .i p.x6, .i s.x7, .n p.N0, .c s.F0_0]
def ofV198_1 : List (Vl th.R) → Option (P198_1 × S198_1)
  | [.n n0, .i x1, .i x2, .i x6, .i x7, .n N0, .c F0_0] => some (⟨n0, x1, x2, x6, N0⟩, ⟨x7, F0_0⟩)
  | _ => none
noncomputable def e198_1_7 (p : P198_1) (s : S198_1) : (Nat) := (0:Nat) + s.x7.toNat
noncomputable def e198_1_8 (p : P198_1) (s : S198_1) : (Int) := IntKind.i64.wrap (s.x7 - (1 : Int))
noncomputable def e198_1_9 (p : P198_1) (s : S198_1) : (Nat) := (0:Nat) + (e198_1_8 p s).toNat
noncomputable def e198_1_10 (p : P198_1) (s : S198_1) : (Int) := s.F0_0 (e198_1_7 p s)
noncomputable def e198_1_11 (p : P198_1) (s : S198_1) : (Int) := s.F0_0 (e198_1_9 p s)
noncomputable def e198_1_0 (p : P198_1) (s : S198_1) : (Prop) := (cnd (decide (s.x7 > p.x1)) true false = true → (0 : Int) ≤ s.x7 ∧ s.x7 < (↑p.n0 : Int)) ∧ (cnd (decide (s.x7 > p.x1)) true false = true → e198_1_7 p s < p.N0) ∧ (cnd (decide (s.x7 > p.x1)) true false = true → (0 : Int) ≤ e198_1_8 p s ∧ e198_1_8 p s < (↑p.n0 : Int)) ∧ (cnd (decide (s.x7 > p.x1)) true false = true → e198_1_9 p s < p.N0) ∧ (cnd (decide (s.x7 > p.x1)) true false = true → pre204 (V204.mk (e198_1_10 p s) (e198_1_11 p s)))
noncomputable def e198_1_1 (p : P198_1) (s : S198_1) : (Bool) := cnd (cnd (decide (s.x7 > p.x1)) (decide (e198_1_10 p s < e198_1_11 p s)) false) false true
noncomputable def e198_1_2 (p : P198_1) (s : S198_1) : (Prop) := ∀ (i : Nat), scpL (0:Nat) ((fun (j : Nat) => [SV.int IntKind.u64 (s.F0_0 j)]) i) = true
noncomputable def e198_1_3 (p : P198_1) (s : S198_1) : (Prop) := (true = true → (0 : Int) ≤ e198_1_8 p s ∧ e198_1_8 p s < (↑p.n0 : Int)) ∧ (true = true → e198_1_9 p s < p.N0) ∧ (true = true → (0 : Int) ≤ s.x7 ∧ s.x7 < (↑p.n0 : Int)) ∧ (true = true → e198_1_7 p s < p.N0) ∧ (true = true → (0 : Int) ≤ s.x7 ∧ s.x7 < (↑p.n0 : Int)) ∧ (e198_1_7 p s < p.N0 ∧ (1 : Nat) = (1 : Nat)) ∧ (true = true → (0 : Int) ≤ e198_1_8 p s ∧ e198_1_8 p s < (↑p.n0 : Int)) ∧ e198_1_9 p s < p.N0 ∧ (1 : Nat) = (1 : Nat)
noncomputable def e198_1_4 (p : P198_1) (s : S198_1) : (Prop) := (∀ (i : Nat), scpL (0:Nat) ((fun (j : Nat) => rowSet (j.beq (e198_1_9 p s)) (splice ((fun (j : Nat) => rowSet (j.beq (e198_1_7 p s)) (splice ((fun (j : Nat) => [SV.int IntKind.u64 (s.F0_0 j)]) (e198_1_7 p s)) (0:Nat) (SV.int IntKind.u64 (e198_1_11 p s)).cells) ((fun (j : Nat) => [SV.int IntKind.u64 (s.F0_0 j)]) j)) (e198_1_9 p s)) (0:Nat) (SV.int IntKind.u64 (e198_1_10 p s)).cells) ((fun (j : Nat) => rowSet (j.beq (e198_1_7 p s)) (splice ((fun (j : Nat) => [SV.int IntKind.u64 (s.F0_0 j)]) (e198_1_7 p s)) (0:Nat) (SV.int IntKind.u64 (e198_1_11 p s)).cells) ((fun (j : Nat) => [SV.int IntKind.u64 (s.F0_0 j)]) j)) j)) i) = true) ∧ ∀ (i : Nat), i < p.N0 → (fun (j : Nat) => rowSet (j.beq (e198_1_9 p s)) (splice ((fun (j : Nat) => rowSet (j.beq (e198_1_7 p s)) (splice ((fun (j : Nat) => [SV.int IntKind.u64 (s.F0_0 j)]) (e198_1_7 p s)) (0:Nat) (SV.int IntKind.u64 (e198_1_11 p s)).cells) ((fun (j : Nat) => [SV.int IntKind.u64 (s.F0_0 j)]) j)) (e198_1_9 p s)) (0:Nat) (SV.int IntKind.u64 (e198_1_10 p s)).cells) ((fun (j : Nat) => rowSet (j.beq (e198_1_7 p s)) (splice ((fun (j : Nat) => [SV.int IntKind.u64 (s.F0_0 j)]) (e198_1_7 p s)) (0:Nat) (SV.int IntKind.u64 (e198_1_11 p s)).cells) ((fun (j : Nat) => [SV.int IntKind.u64 (s.F0_0 j)]) j)) j)) i = elC (fun (j : Nat) => rowSet (j.beq (e198_1_9 p s)) (splice ((fun (j : Nat) => rowSet (j.beq (e198_1_7 p s)) (splice ((fun (j : Nat) => [SV.int IntKind.u64 (s.F0_0 j)]) (e198_1_7 p s)) (0:Nat) (SV.int IntKind.u64 (e198_1_11 p s)).cells) ((fun (j : Nat) => [SV.int IntKind.u64 (s.F0_0 j)]) j)) (e198_1_9 p s)) (0:Nat) (SV.int IntKind.u64 (e198_1_10 p s)).cells) ((fun (j : Nat) => rowSet (j.beq (e198_1_7 p s)) (splice ((fun (j : Nat) => [SV.int IntKind.u64 (s.F0_0 j)]) (e198_1_7 p s)) (0:Nat) (SV.int IntKind.u64 (e198_1_11 p s)).cells) ((fun (j : Nat) => [SV.int IntKind.u64 (s.F0_0 j)]) j)) j)) (0:Nat) [Ck.int IntKind.u64] i
noncomputable def e198_1_5 (p : P198_1) (s : S198_1) : (Int) := e198_1_8 p s
noncomputable def e198_1_6 (p : P198_1) (s : S198_1) : Nat → (Int) := fun (j : Nat) => cnd (j.beq (e198_1_9 p s)) (e198_1_10 p s) (cnd (j.beq (e198_1_7 p s)) (e198_1_11 p s) (s.F0_0 j))
theorem n_e198_1_2 (p : P198_1) (s : S198_1) : e198_1_2 p s := by
  unfold e198_1_2
  first
    | (intros; rfl)
    | (intro i; rfl)
    | (intro i _; rfl)
    | (intro _ i; rfl)
    | (intro _ i _; rfl)
    | (refine ⟨?_, ?_⟩ <;> intro i <;> rfl)
    | (refine ⟨?_, ?_, ?_⟩ <;> intro i <;> rfl)
    | (refine ⟨?_, ?_⟩ <;> intro i _ <;> rfl)
    | (repeat' apply And.intro) <;> first | (intro i; rfl) | (intro i _; rfl) | (intro i h; exact absurd h (Nat.not_lt_zero i)) | (intro i; exact scpL_rowSet (by rfl) (by rfl)) | (intro i; exact scpL_rowEl (by kernel_rfl) _)
    | (intros; (repeat' apply And.intro) <;> intros <;> first | rfl | (exact absurd (by assumption) (Nat.not_lt_zero _)))
    | omega
    | decide
theorem n_e198_1_4 (p : P198_1) (s : S198_1) : e198_1_4 p s := by
  unfold e198_1_4
  first
    | (intros; rfl)
    | (intro i; rfl)
    | (intro i _; rfl)
    | (intro _ i; rfl)
    | (intro _ i _; rfl)
    | (refine ⟨?_, ?_⟩ <;> intro i <;> rfl)
    | (refine ⟨?_, ?_, ?_⟩ <;> intro i <;> rfl)
    | (refine ⟨?_, ?_⟩ <;> intro i _ <;> rfl)
    | (repeat' apply And.intro) <;> first | (intro i; rfl) | (intro i _; rfl) | (intro i h; exact absurd h (Nat.not_lt_zero i)) | (intro i; exact scpL_rowSet (by rfl) (by rfl)) | (intro i; exact scpL_rowEl (by kernel_rfl) _)
    | (intros; (repeat' apply And.intro) <;> intros <;> first | rfl | (exact absurd (by assumption) (Nat.not_lt_zero _)))
    | omega
    | decide
noncomputable def rf198_1 (p : P198_1) (s : S198_1) : Tr (Rs th.R S198_1) := (Tr.need (e198_1_0 p s) (Tr.ite (e198_1_1 p s) (Tr.need (e198_1_2 p s) (Tr.leaf (Rs.out (Ex.exit (2 : Nat)) [(some (SV.slc (0:Nat) (1 : Nat) (0:Nat) (p.n0))), some (SV.int .i64 (p.x1)), some (SV.int .i64 (p.x2)), none, none, none, some (SV.int .i64 (p.x6)), none, none, none, none, none, none, none, none, none, none, none, none, none, none, none, none, none, none, none, none, none, none, none, none, none, none, none, none, none, none, none, none, none, none, none, none, none, none, none, none, none, none] [(HO.row (22 : Nat) (1 : Nat) (p.N0) (fun j => [SV.int .u64 (s.F0_0 j)]))]))) (Tr.need (e198_1_3 p s) (Tr.need (e198_1_4 p s) (Tr.leaf (Rs.on (S198_1.mk ((e198_1_5 p s)) ((fun j => (e198_1_6 p s j))))))))))
noncomputable def r198_1 (p : P198_1) (s : S198_1) : Tr (Rs th.R S198_1) := (Tr.need (e198_1_0 p s) (Tr.ite (e198_1_1 p s) (Tr.leaf (Rs.out (Ex.exit (2 : Nat)) [(some (SV.slc (0:Nat) (1 : Nat) (0:Nat) (p.n0))), some (SV.int .i64 (p.x1)), some (SV.int .i64 (p.x2)), none, none, none, some (SV.int .i64 (p.x6)), none, none, none, none, none, none, none, none, none, none, none, none, none, none, none, none, none, none, none, none, none, none, none, none, none, none, none, none, none, none, none, none, none, none, none, none, none, none, none, none, none, none] [(HO.row (22 : Nat) (1 : Nat) (p.N0) (fun j => [SV.int .u64 (s.F0_0 j)]))])) (Tr.need (e198_1_3 p s) (Tr.leaf (Rs.on (S198_1.mk ((e198_1_5 p s)) ((fun j => (e198_1_6 p s j)))))))))
noncomputable def E198_1 : St th.R → Out th := evCode th Try.prog (auto th Try.prog nice204n [] 20) (autoH [] [] [] [] : Hints th) (lpAt Try.prog 198 1)
theorem B198_1 : CodeSound th Try.prog (lpAt Try.prog 198 1) E198_1 := evCode_sound (T := th) (P := Try.prog) (tbl := (auto th Try.prog nice204n [] 20)) (auto_sound (nice := nice204n) (us := []) nok204n 20) (autoH [] [] [] [] : Hints th) _ (LoopsOk_mem (fun _ => rfl) _ fun b hb L hL => by cases hL)
noncomputable def L198_1 : St th.R → Out th := loopL d198_1 ofV198_1 r198_1
theorem h1_198_1 (p : P198_1) (s : S198_1) : bld d198_1.tm (toV198_1 p s) = some (I198_1 p s) := by kernel_rfl
theorem h2_198_1 (l : List (Vl th.R)) (p : P198_1) (s : S198_1) (h : ofV198_1 l = some (p, s)) : l = toV198_1 p s := by
  unfold ofV198_1 at h
  split at h
  · cases h; rfl
  · cases h
theorem h3_198_1 (p : P198_1) (s : S198_1) : cvE d198_1 (E198_1 (I198_1 p s)) = some ((rf198_1 p s).map (Rs.map (toV198_1 p))) := by kernel_rfl
theorem h3g_198_1 (p : P198_1) (s : S198_1) : (rf198_1 p s).get = (r198_1 p s).get := by kernel_rfl
theorem h4_198_1 (p : P198_1) (s s1 : S198_1) : outH d198_1.dirt d198_1.n0 (r198_1 p s) = repH (maskH d198_1.dirt 0 d198_1.n0 (I198_1 p s1).heap) (r198_1 p s) := by kernel_rfl
theorem ls198_1 : CodeSound th Try.prog (.loop (lpAt Try.prog 198 1)) L198_1 := loopL_sound B198_1 d198_1 I198_1 toV198_1 (by kernel_rfl) h1_198_1 h2_198_1
  (fun p s => ⟨(rf198_1 p s).map (Rs.map (toV198_1 p)), h3_198_1 p s, fun h => by
    rw [Tr.map_ok]
    unfold r198_1 at h; unfold rf198_1
    simp only [Tr.ok, n_e198_1_2, n_e198_1_4, true_and, and_true, forall_const, implies_true] at h ⊢
    try exact h, by rw [Tr.map_get, h3g_198_1 p s]⟩) h4_198_1
structure P198_0 where
  n0 : Nat
  x1 : Int
  x2 : Int
  N0 : Nat
structure S198_0 where
  x6 : Int
  F0_0 : Nat → Int
noncomputable instance : Inhabited S198_0 := ⟨⟨0, fun _ => 0⟩⟩
def I198_0 (p : P198_0) (s : S198_0) : St th.R := ⟨[some (.slc 0 1 0 p.n0), some (.int .i64 p.x1), some (.int .i64 p.x2), none, none, none, some (.int .i64 s.x6), none, none, none, none, none, none, none, none, none, none, none, none, none, none, none, none, none, none, none, none, none, none, none, none, none, none, none, none, none, none, none, none, none, none, none, none, none, none, none, none, none, none], [.row 22 1 p.N0 (fun j => [.int .u64 (s.F0_0 j)])], [], []⟩
def d198_0 : Lp := ⟨⟨49, [(0, .slc0 0 1), (1, .int .i64), (2, .int .i64), (6, .int .i64)], [.rowc 22 [.int .u64]]⟩, [], 1, [0], [], []⟩
def toV198_0 (p : P198_0) (s : S198_0) : List (Vl th.R) := [.n p.n0, .i p.x1, .i p.x2, .i s.x6, .n p.N0, .c s.F0_0]
def ofV198_0 : List (Vl th.R) → Option (P198_0 × S198_0)
  | [.n n0, .i x1, .i x2, .i x6, .n N0, .c F0_0] => some (⟨n0, x1, x2, N0⟩, ⟨x6, F0_0⟩)
  | _ => none
noncomputable def e198_0_0 (p : P198_0) (s : S198_0) : (Bool) := cnd (decide (s.x6 < p.x2)) false true
noncomputable def e198_0_1 (p : P198_0) (s : S198_0) : (Prop) := ∀ (i : Nat), scpL (0:Nat) ((fun (j : Nat) => [SV.int IntKind.u64 (s.F0_0 j)]) i) = true
noncomputable def e198_0_2 (p : P198_0) (s : S198_0) : (Prop) := ∀ (i : Nat), i < p.N0 → (fun (j : Nat) => [SV.int IntKind.u64 (s.F0_0 j)]) i = elC (fun (j : Nat) => [SV.int IntKind.u64 (s.F0_0 j)]) (0:Nat) [Ck.int IntKind.u64] i
noncomputable def e198_0_3 (p : P198_0) (s : S198_0) : (Prop) := LT (r198_1 (P198_1.mk p.n0 p.x1 p.x2 s.x6 p.N0)) (S198_1.mk s.x6 s.F0_0)
noncomputable def e198_0_4 (p : P198_0) (s : S198_0) : (Prop) := (∀ (i : Nat), scpL (0:Nat) ((fun (j : Nat) => [SV.int IntKind.u64 ((lastS (r198_1 (P198_1.mk p.n0 p.x1 p.x2 s.x6 p.N0)) (S198_1.mk s.x6 s.F0_0)).F0_0 j)]) i) = true) ∧ ∀ (i : Nat), i < p.N0 → (fun (j : Nat) => [SV.int IntKind.u64 ((lastS (r198_1 (P198_1.mk p.n0 p.x1 p.x2 s.x6 p.N0)) (S198_1.mk s.x6 s.F0_0)).F0_0 j)]) i = elC (fun (j : Nat) => [SV.int IntKind.u64 ((lastS (r198_1 (P198_1.mk p.n0 p.x1 p.x2 s.x6 p.N0)) (S198_1.mk s.x6 s.F0_0)).F0_0 j)]) (0:Nat) [Ck.int IntKind.u64] i
noncomputable def e198_0_5 (p : P198_0) (s : S198_0) : (Int) := IntKind.i64.wrap (s.x6 + (1 : Int))
noncomputable def e198_0_6 (p : P198_0) (s : S198_0) : (Nat → Int) := (lastS (r198_1 (P198_1.mk p.n0 p.x1 p.x2 s.x6 p.N0)) (S198_1.mk s.x6 s.F0_0)).F0_0
theorem n_e198_0_1 (p : P198_0) (s : S198_0) : e198_0_1 p s := by
  unfold e198_0_1
  first
    | (intros; rfl)
    | (intro i; rfl)
    | (intro i _; rfl)
    | (intro _ i; rfl)
    | (intro _ i _; rfl)
    | (refine ⟨?_, ?_⟩ <;> intro i <;> rfl)
    | (refine ⟨?_, ?_, ?_⟩ <;> intro i <;> rfl)
    | (refine ⟨?_, ?_⟩ <;> intro i _ <;> rfl)
    | (repeat' apply And.intro) <;> first | (intro i; rfl) | (intro i _; rfl) | (intro i h; exact absurd h (Nat.not_lt_zero i)) | (intro i; exact scpL_rowSet (by rfl) (by rfl)) | (intro i; exact scpL_rowEl (by kernel_rfl) _)
    | (intros; (repeat' apply And.intro) <;> intros <;> first | rfl | (exact absurd (by assumption) (Nat.not_lt_zero _)))
    | omega
    | decide
theorem n_e198_0_2 (p : P198_0) (s : S198_0) : e198_0_2 p s := by
  unfold e198_0_2
  first
    | (intros; rfl)
    | (intro i; rfl)
    | (intro i _; rfl)
    | (intro _ i; rfl)
    | (intro _ i _; rfl)
    | (refine ⟨?_, ?_⟩ <;> intro i <;> rfl)
    | (refine ⟨?_, ?_, ?_⟩ <;> intro i <;> rfl)
    | (refine ⟨?_, ?_⟩ <;> intro i _ <;> rfl)
    | (repeat' apply And.intro) <;> first | (intro i; rfl) | (intro i _; rfl) | (intro i h; exact absurd h (Nat.not_lt_zero i)) | (intro i; exact scpL_rowSet (by rfl) (by rfl)) | (intro i; exact scpL_rowEl (by kernel_rfl) _)
    | (intros; (repeat' apply And.intro) <;> intros <;> first | rfl | (exact absurd (by assumption) (Nat.not_lt_zero _)))
    | omega
    | decide
theorem n_e198_0_4 (p : P198_0) (s : S198_0) : e198_0_4 p s := by
  unfold e198_0_4
  first
    | (intros; rfl)
    | (intro i; rfl)
    | (intro i _; rfl)
    | (intro _ i; rfl)
    | (intro _ i _; rfl)
    | (refine ⟨?_, ?_⟩ <;> intro i <;> rfl)
    | (refine ⟨?_, ?_, ?_⟩ <;> intro i <;> rfl)
    | (refine ⟨?_, ?_⟩ <;> intro i _ <;> rfl)
    | (repeat' apply And.intro) <;> first | (intro i; rfl) | (intro i _; rfl) | (intro i h; exact absurd h (Nat.not_lt_zero i)) | (intro i; exact scpL_rowSet (by rfl) (by rfl)) | (intro i; exact scpL_rowEl (by kernel_rfl) _)
    | (intros; (repeat' apply And.intro) <;> intros <;> first | rfl | (exact absurd (by assumption) (Nat.not_lt_zero _)))
    | omega
    | decide
noncomputable def rf198_0 (p : P198_0) (s : S198_0) : Tr (Rs th.R S198_0) := (Tr.ite (e198_0_0 p s) (Tr.need (e198_0_1 p s) (Tr.leaf (Rs.out (Ex.exit (0:Nat)) [none, none, none, none, none, none, none, none, none, none, none, none, none, none, none, none, none, none, none, none, none, none, none, none, none, none, none, none, none, none, none, none, none, none, none, none, none, none, none, none, none, none, none, none, none, none, none, none, none] [(HO.row (22 : Nat) (1 : Nat) (p.N0) (fun j => [SV.int .u64 (s.F0_0 j)]))]))) (Tr.need (e198_0_2 p s) (Tr.need (e198_0_3 p s) (Tr.need (e198_0_4 p s) (Tr.leaf (Rs.on (S198_0.mk ((e198_0_5 p s)) ((e198_0_6 p s)))))))))
noncomputable def r198_0 (p : P198_0) (s : S198_0) : Tr (Rs th.R S198_0) := (Tr.ite (e198_0_0 p s) (Tr.leaf (Rs.out (Ex.exit (0:Nat)) [none, none, none, none, none, none, none, none, none, none, none, none, none, none, none, none, none, none, none, none, none, none, none, none, none, none, none, none, none, none, none, none, none, none, none, none, none, none, none, none, none, none, none, none, none, none, none, none, none] [(HO.row (22 : Nat) (1 : Nat) (p.N0) (fun j => [SV.int .u64 (s.F0_0 j)]))])) (Tr.need (e198_0_3 p s) (Tr.leaf (Rs.on (S198_0.mk ((e198_0_5 p s)) ((e198_0_6 p s)))))))
noncomputable def E198_0 : St th.R → Out th := evCode th Try.prog (auto th Try.prog nice204n [] 20) (autoH [(4, L198_1)] [] [] [] : Hints th) (lpAt Try.prog 198 0)
theorem ok198_0 : LoopsOk th Try.prog (autoH [(4, L198_1)] [] [] [] : Hints th) (lpAt Try.prog 198 0) := autoH_ok (bs := [lpAt Try.prog 198 1]) (by kernel_rfl) fun b hb L hL => by
  simp only [List.mem_cons, List.not_mem_nil, or_false] at hb
  rcases hb with rfl
  · have e : lookL [(4, L198_1)] (firstReg (lpAt Try.prog 198 1)) = some L198_1 := by kernel_rfl
    rw [e] at hL; cases hL
    exact ls198_1
theorem B198_0 : CodeSound th Try.prog (lpAt Try.prog 198 0) E198_0 := evCode_sound (T := th) (P := Try.prog) (tbl := (auto th Try.prog nice204n [] 20)) (auto_sound (nice := nice204n) (us := []) nok204n 20) (autoH [(4, L198_1)] [] [] [] : Hints th) _ ok198_0
noncomputable def L198_0 : St th.R → Out th := loopL d198_0 ofV198_0 r198_0
theorem h1_198_0 (p : P198_0) (s : S198_0) : bld d198_0.tm (toV198_0 p s) = some (I198_0 p s) := by kernel_rfl
theorem h2_198_0 (l : List (Vl th.R)) (p : P198_0) (s : S198_0) (h : ofV198_0 l = some (p, s)) : l = toV198_0 p s := by
  unfold ofV198_0 at h
  split at h
  · cases h; rfl
  · cases h
theorem h3_198_0 (p : P198_0) (s : S198_0) : cvE d198_0 (E198_0 (I198_0 p s)) = some ((rf198_0 p s).map (Rs.map (toV198_0 p))) := by kernel_rfl
theorem h3g_198_0 (p : P198_0) (s : S198_0) : (rf198_0 p s).get = (r198_0 p s).get := by kernel_rfl
theorem h4_198_0 (p : P198_0) (s s1 : S198_0) : outH d198_0.dirt d198_0.n0 (r198_0 p s) = repH (maskH d198_0.dirt 0 d198_0.n0 (I198_0 p s1).heap) (r198_0 p s) := by kernel_rfl
theorem ls198_0 : CodeSound th Try.prog (.loop (lpAt Try.prog 198 0)) L198_0 := loopL_sound B198_0 d198_0 I198_0 toV198_0 (by kernel_rfl) h1_198_0 h2_198_0
  (fun p s => ⟨(rf198_0 p s).map (Rs.map (toV198_0 p)), h3_198_0 p s, fun h => by
    rw [Tr.map_ok]
    unfold r198_0 at h; unfold rf198_0
    simp only [Tr.ok, n_e198_0_1, n_e198_0_2, n_e198_0_4, true_and, and_true, forall_const, implies_true] at h ⊢
    try exact h, by rw [Tr.map_get, h3g_198_0 p s]⟩) h4_198_0
theorem ok198 : LoopsOk th Try.prog (autoH [(1, L198_0)] [] [] [] : Hints th) (bodyOf Try.prog 198) := autoH_ok (bs := [lpAt Try.prog 198 0, lpAt Try.prog 198 1]) (by kernel_rfl) fun b hb L hL => by
  simp only [List.mem_cons, List.not_mem_nil, or_false] at hb
  rcases hb with rfl | rfl
  · have e : lookL [(1, L198_0)] (firstReg (lpAt Try.prog 198 0)) = some L198_0 := by kernel_rfl
    rw [e] at hL; cases hL
    exact ls198_0
  · have e : lookL [(1, L198_0)] (firstReg (lpAt Try.prog 198 1)) = (none : Option (St th.R → Out th)) := by kernel_rfl
    rw [e] at hL; cases hL
noncomputable def f198_4 (v : V198) : (S198_0) := S198_0.mk (IntKind.i64.wrap (v.a + (1 : Int))) v.F
noncomputable def f198_0 (v : V198) : (Prop) := ∀ (i : Nat), i < v.Q → (fun (j : Nat) => [SV.int IntKind.u64 (v.F j)]) i = elC (fun (j : Nat) => [SV.int IntKind.u64 (v.F j)]) (0:Nat) [Ck.int IntKind.u64] i
noncomputable def f198_1 (v : V198) : (Prop) := LT (r198_0 (P198_0.mk v.L v.a v.b v.Q)) (f198_4 v)
noncomputable def f198z0 (v : V198) : S198_0 := lastS (r198_0 (P198_0.mk v.L v.a v.b v.Q)) (f198_4 v)
noncomputable def f198_2 (v : V198) : (Prop) := ∀ (i : Nat), scpL (1 : Nat) ((fun (j : Nat) => [SV.int IntKind.u64 ((f198z0 v).F0_0 j)]) i) = true
noncomputable def f198_3 (v : V198) : Nat → (Int) := fun (j : Nat) => (f198z0 v).F0_0 j
theorem n_f198_0 (v : V198) : f198_0 v := by
  unfold f198_0
  first
    | (intros; rfl)
    | (intro i; rfl)
    | (intro i _; rfl)
    | (intro _ i; rfl)
    | (intro _ i _; rfl)
    | (refine ⟨?_, ?_⟩ <;> intro i <;> rfl)
    | (refine ⟨?_, ?_, ?_⟩ <;> intro i <;> rfl)
    | (refine ⟨?_, ?_⟩ <;> intro i _ <;> rfl)
    | (repeat' apply And.intro) <;> first | (intro i; rfl) | (intro i _; rfl) | (intro i h; exact absurd h (Nat.not_lt_zero i)) | (intro i; exact scpL_rowSet (by rfl) (by rfl)) | (intro i; exact scpL_rowEl (by kernel_rfl) _)
    | (intros; (repeat' apply And.intro) <;> intros <;> first | rfl | (exact absurd (by assumption) (Nat.not_lt_zero _)))
    | omega
    | decide
theorem n_f198_2 (v : V198) : f198_2 v := by
  unfold f198_2
  first
    | (intros; rfl)
    | (intro i; rfl)
    | (intro i _; rfl)
    | (intro _ i; rfl)
    | (intro _ i _; rfl)
    | (refine ⟨?_, ?_⟩ <;> intro i <;> rfl)
    | (refine ⟨?_, ?_, ?_⟩ <;> intro i <;> rfl)
    | (refine ⟨?_, ?_⟩ <;> intro i _ <;> rfl)
    | (repeat' apply And.intro) <;> first | (intro i; rfl) | (intro i _; rfl) | (intro i h; exact absurd h (Nat.not_lt_zero i)) | (intro i; exact scpL_rowSet (by rfl) (by rfl)) | (intro i; exact scpL_rowEl (by kernel_rfl) _)
    | (intros; (repeat' apply And.intro) <;> intros <;> first | rfl | (exact absurd (by assumption) (Nat.not_lt_zero _)))
    | omega
    | decide
noncomputable def ff198 (v : V198) : Tr (Fin th.R) := (Tr.need (f198_0 v) (Tr.need (f198_1 v) (Tr.need (f198_2 v) (Tr.leaf (SV.tup [], [(HO.row (22 : Nat) (1 : Nat) (v.Q) (fun j => [SV.int .u64 (f198_3 v j)]))], [(0:Nat)])))))
noncomputable def f198 (v : V198) : Tr (Fin th.R) := (Tr.need (f198_1 v) (Tr.leaf (SV.tup [], [(HO.row (22 : Nat) (1 : Nat) (v.Q) (fun j => [SV.int .u64 (f198_3 v j)]))], [0])))
noncomputable def C198 : CF th.R := fnC d198 ofV198 (f198 )
theorem q198 (v : V198) : (evFn th Try.prog (auto th Try.prog nice204n [] 20) (autoH [(1, L198_0)] [] [] [] : Hints th) 198) (A198 v) (H198 v) = some (ff198 v) := by kernel_rfl
theorem qg198 (v : V198) : ((ff198 v).map (setD [0])).get = (f198 v).get := by kernel_rfl
theorem qd198 (v : V198) : allD 1 [0] (ff198 v) = true := by kernel_rfl
theorem s198 : Sound Try.prog th 198 (C198 ) := fnC_sound (evFn_sound' (T := th) (P := Try.prog) (tbl := (auto th Try.prog nice204n [] 20)) (auto_sound (nice := nice204n) (us := []) nok204n 20) (H := (autoH [(1, L198_0)] [] [] [] : Hints th)) (k := 198) (fnLoops ok198)) d198 A198 H198 toV198 (by kernel_rfl) (fun v => by kernel_rfl)
  (fun l v h => by
    unfold ofV198 at h
    split at h
    · cases h; rfl
    · cases h)
  [0] (fun v => ⟨ff198 v, q198 v, fun h => by
    unfold f198 at h; unfold ff198
    simp only [Tr.ok, n_f198_0, n_f198_2, true_and, and_true, forall_const, implies_true] at h ⊢
    try exact h, qg198 v, qd198 v⟩)
theorem qdd198 (v : V198) : (f198 v).get.2.2 = [0] := by
  rw [← qg198, Tr.map_get]; rfl
end Go.Sx.M

namespace Go.Sx.M
open Go Go.Sx Go.Proofs Go.RowKit
set_option maxRecDepth 100000
open Go.Sort (insInner insOuter ltInt swp)
theorem l198_1 {p : P198_1} {s : S198_1} {a n j : Nat} (hp : p.x1 = a ∧ p.n0 = n ∧ p.N0 = n ∧ n < 4611686018427387904) (hs : s.x7 = j ∧ j < n) : LT (r198_1 p) s ∧ ar (lastS (r198_1 p) s).F0_0 n = insInner ltInt a j (ar s.F0_0 n) := by
  obtain ⟨h1, h0, hN, hn⟩ := hp
  refine LT.post (fun t : S198_1 => ∃ i : Nat, t.x7 = i ∧ i < n ∧ insInner ltInt a i (ar t.F0_0 n) = insInner ltInt a j (ar s.F0_0 n)) (fun t : S198_1 => ar t.F0_0 n = insInner ltInt a j (ar s.F0_0 n)) (fun t : S198_1 => t.x7.toNat) ?_ ⟨j, hs.1, hs.2, rfl⟩
  rintro ⟨x7, F⟩ ⟨i, g1, g2, g3⟩
  simp only at g1 g3
  subst g1
  rw [← g3]
  have e7 : e198_1_7 p ⟨i, F⟩ = i := by show 0 + (i : Int).toNat = i; omega
  have e8 : e198_1_8 p ⟨i, F⟩ = (i : Int) - 1 := by show IntKind.i64.wrap ((i : Int) - 1) = _; rw [wi (by omega) (by omega)]
  have e9 : e198_1_9 p ⟨i, F⟩ = i - 1 := by show 0 + (e198_1_8 p ⟨i, F⟩).toNat = i - 1; rw [e8]; omega
  have nd : e198_1_0 p ⟨i, F⟩ := by
    unfold e198_1_0
    rw [e7, e8, e9, h0, hN]
    refine ⟨fun _ => ⟨by show (0 : Int) ≤ i; omega, by show (i : Int) < n; omega⟩, fun _ => g2, fun e => ?_, fun _ => by omega, fun _ => trivial⟩
    have : (i : Int) > p.x1 := by simpa [cnd_id] using e
    omega
  by_cases hc : i > a ∧ F i < F (i - 1)
  · obtain ⟨k, rfl⟩ : ∃ k, i = k + 1 := ⟨i - 1, by omega⟩
    have ek : k + 1 - 1 = k := by omega
    rw [ek] at hc e9
    have hd : e198_1_1 p ⟨((k + 1 : Nat) : Int), F⟩ = false := by
      show cnd (cnd (decide (((k + 1 : Nat) : Int) > p.x1)) (decide (e198_1_10 p _ < e198_1_11 p _)) false) false true = false
      unfold e198_1_10 e198_1_11
      rw [e7, e9, decide_eq_true (show ((k + 1 : Nat) : Int) > p.x1 by omega)]
      have : decide (F (k + 1) < F k) = true := decide_eq_true hc.2
      show cnd (cnd true (decide (F (k + 1) < F k)) false) false true = false
      rw [this]; rfl
    simp only [r198_1, hd, Tr.ok, Tr.get]
    refine ⟨⟨nd, (fun e => by cases e), fun _ => ⟨?_, trivial⟩⟩, .inr ⟨_, rfl, ⟨k, by show e198_1_8 p _ = _; rw [e8]; omega, by omega, ?_⟩, by show (e198_1_8 p _).toNat < _; rw [e8]; omega⟩⟩
    · unfold e198_1_3
      rw [e7, e8, e9, h0, hN]
      (repeat' first | apply And.intro | intro _) <;> first
        | rfl
        | omega
        | (show (0 : Int) ≤ ((k + 1 : Nat) : Int); omega)
        | (show ((k + 1 : Nat) : Int) < n; omega)
    · show insInner ltInt a k (ar (e198_1_6 p ⟨((k + 1 : Nat) : Int), F⟩) n) = insInner ltInt a (k + 1) (ar F n)
      have e6 : e198_1_6 p ⟨((k + 1 : Nat) : Int), F⟩ = swF F (k + 1) k := by
        funext q
        show cnd (Nat.beq q (e198_1_9 p _)) (e198_1_10 p _) (cnd (Nat.beq q (e198_1_7 p _)) (e198_1_11 p _) (F q)) = _
        unfold e198_1_10 e198_1_11
        rw [e7, e9]; rfl
      have e2 : ltInt (ar F n)[k + 1]! (ar F n)[k]! = true := by rw [lt_ar g2 (by omega)]; exact decide_eq_true hc.2
      rw [e6, ← ar_swp g2 (by omega)]
      show _ = if k + 1 > a && ltInt (ar F n)[k + 1]! (ar F n)[k]! then insInner ltInt a k (swp (ar F n) (k + 1) k) else ar F n
      rw [e2, if_pos (by simpa using hc.1)]
  · have hd : e198_1_1 p ⟨i, F⟩ = true := by
      show cnd (cnd (decide ((i : Int) > p.x1)) (decide (e198_1_10 p _ < e198_1_11 p _)) false) false true = true
      unfold e198_1_10 e198_1_11
      rw [e7, e9]
      by_cases ha : i > a
      · rw [decide_eq_true (show (i : Int) > p.x1 by omega)]
        have : decide (F i < F (i - 1)) = false := decide_eq_false fun e => hc ⟨ha, e⟩
        show cnd (cnd true (decide (F i < F (i - 1))) false) false true = true
        rw [this]; rfl
      · rw [decide_eq_false (show ¬ (i : Int) > p.x1 by omega)]; rfl
    simp only [r198_1, hd, Tr.ok, Tr.get]
    refine ⟨⟨nd, fun _ => trivial, (fun e => by cases e)⟩, .inl ⟨⟨_, _, _, rfl⟩, ?_⟩⟩
    cases i with
    | zero => rfl
    | succ k =>
      show ar F n = if k + 1 > a && ltInt (ar F n)[k + 1]! (ar F n)[k]! then insInner ltInt a k (swp (ar F n) (k + 1) k) else ar F n
      rw [lt_ar g2 (by omega), if_neg]
      simp only [Bool.and_eq_true, decide_eq_true_eq]
      exact hc
theorem l198_0 {p : P198_0} {s : S198_0} {a b n i : Nat} (hp : p.x1 = a ∧ p.x2 = b ∧ p.n0 = n ∧ p.N0 = n ∧ n < 4611686018427387904 ∧ b ≤ n) (hs : s.x6 = i ∧ a + 1 ≤ i) : LT (r198_0 p) s ∧ ar (lastS (r198_0 p) s).F0_0 n = insOuter ltInt a b i (ar s.F0_0 n) := by
  obtain ⟨h1, h2, h0, hN, hn, hb⟩ := hp
  refine LT.post (fun t : S198_0 => ∃ k : Nat, t.x6 = k ∧ insOuter ltInt a b k (ar t.F0_0 n) = insOuter ltInt a b i (ar s.F0_0 n)) (fun t : S198_0 => ar t.F0_0 n = insOuter ltInt a b i (ar s.F0_0 n)) (fun t : S198_0 => b - t.x6.toNat) ?_ ⟨i, hs.1, rfl⟩
  rintro ⟨x6, F⟩ ⟨k, g1, g3⟩
  simp only at g1 g3
  subst g1
  rw [← g3]
  by_cases hc : k < b
  · have hd : e198_0_0 p ⟨k, F⟩ = false := by
      show cnd (decide ((k : Int) < p.x2)) false true = false
      rw [h2, decide_eq_true (by omega)]; rfl
    have m := l198_1 (p := P198_1.mk p.n0 p.x1 p.x2 k p.N0) (s := ⟨k, F⟩) (a := a) (n := n) (j := k) ⟨h1, h0, hN, hn⟩ ⟨rfl, by omega⟩
    have w : IntKind.i64.wrap ((k : Int) + 1) = ((k + 1 : Nat) : Int) := by rw [wi (by omega) (by omega)]; omega
    simp only [r198_0, hd, Tr.ok, Tr.get]
    refine ⟨⟨(fun e => by cases e), fun _ => ⟨m.1, trivial⟩⟩, .inr ⟨_, rfl, ⟨k + 1, w, ?_⟩, by show b - (IntKind.i64.wrap ((k : Int) + 1)).toNat < b - (k : Int).toNat; rw [w]; omega⟩⟩
    show insOuter ltInt a b (k + 1) (ar (e198_0_6 p ⟨k, F⟩) n) = _
    have e6 : ar (e198_0_6 p ⟨k, F⟩) n = insInner ltInt a k (ar F n) := m.2
    rw [e6, insOuter.eq_1 (i := k), if_pos hc]
  · have hd : e198_0_0 p ⟨k, F⟩ = true := by
      show cnd (decide ((k : Int) < p.x2)) false true = true
      rw [h2, decide_eq_false (by omega)]; rfl
    simp only [r198_0, hd, Tr.ok, Tr.get]
    refine ⟨⟨fun _ => trivial, (fun e => by cases e)⟩, .inl ⟨⟨_, _, _, rfl⟩, ?_⟩⟩
    show ar F n = _
    rw [insOuter.eq_1 (i := k), if_neg hc]
def pre198 (v : V198) : Prop := v.Q = v.L ∧ v.L < 4611686018427387904 ∧ 0 ≤ v.a ∧ v.a ≤ v.b ∧ v.b ≤ v.L
theorem n198 (v : V198) (h : pre198 v) : (f198 v).ok ∧ (f198 v).get.1 = .tup [] ∧ HOws (f198 v).get.2.1 [HO.row 22 1 v.L (fun j => [.int .u64 (gt (Go.Sort.insertionSort Go.Sort.ltInt (ar v.F v.L) v.a.toNat v.b.toNat) j)])] := by
  obtain ⟨hQ, hn, a0, hab, hb⟩ := h
  have m : LT (r198_0 (P198_0.mk v.L v.a v.b v.Q)) (f198_4 v) ∧ ar (f198z0 v).F0_0 v.L = insOuter ltInt v.a.toNat v.b.toNat (v.a.toNat + 1) (ar v.F v.L) :=
    l198_0 (p := P198_0.mk v.L v.a v.b v.Q) (s := f198_4 v) (a := v.a.toNat) (b := v.b.toNat) (n := v.L) (i := v.a.toNat + 1) ⟨(by show v.a = _; omega), (by show v.b = _; omega), rfl, hQ, hn, by omega⟩ ⟨(by show IntKind.i64.wrap (v.a + 1) = _; rw [wi (by omega) (by omega)]; omega), by omega⟩
  refine ⟨⟨m.1, trivial⟩, rfl, ?_⟩
  simp only [f198, Tr.get, f198_3]
  exact .cons (HOw_ar hQ m.2) .nil
noncomputable def f198n (v : V198) : Tr (Fin th.R) := .need (pre198 v) (.leaf (.tup [], [.row 22 1 v.L (fun j => [.int .u64 (gt (Go.Sort.insertionSort Go.Sort.ltInt (ar v.F v.L) v.a.toNat v.b.toNat) j)])], [0]))
theorem s198n : Sound Try.prog th 198 (fnC d198 ofV198 f198n) := fnC_refine s198 fun v h => by
  obtain ⟨hp, _⟩ := h
  obtain ⟨a, b, c⟩ := n198 v hp
  exact ⟨a, b.symm, (qdd198 v).symm, c, by show 1 ≤ 1; decide⟩
noncomputable def nice198n : List (Nat × CF th.R) := (198, lift (fnC d198 ofV198 f198n)) :: nice204n
theorem nok198n : NiceOk Try.prog th nice198n := ⟨lift_sound s198n, nok204n⟩
end Go.Sx.M

namespace Go.Sx.M
open Go Go.Sx Go.Proofs Go.RowKit
set_option maxRecDepth 100000
theorem cw198 (v : V198) : fnC d198 ofV198 f198n (A198 v) (H198 v) = some (.need (∀ i, i < v.Q → (fun j => [.int .u64 (v.F j)] : Nat → List SV) i = elC (fun j => [.int .u64 (v.F j)] : Nat → List SV) 0 [.int .u64] i) ((f198n v).map (fixF (H198 v)))) := by kernel_rfl
/-! ### pdqsort of at most twelve -/
structure V189 where
  L : Nat
  a : Int
  b : Int
  c : Int
  Q : Nat
  F : Nat → Int
def A189 (v : V189) : List SV := [.slc 0 1 0 v.L, .int .i64 v.a, .int .i64 v.b, .int .i64 v.c]
def H189 (v : V189) : List (HO th.R) := [.row 22 1 v.Q (fun j => [.int .u64 (v.F j)])]
def toV189 (v : V189) : List (Vl th.R) := [.n v.L, .i v.a, .i v.b, .i v.c, .n v.Q, .c v.F]
def ofV189 : List (Vl th.R) → Option V189
  | [.n L, .i a, .i b, .i c, .n Q, .c F] => some ⟨L, a, b, c, Q, F⟩
  | _ => none
def d189 : Ft := ⟨[.slc0 0 1, .int .i64, .int .i64, .int .i64], [.rowc 22 [.int .u64]]⟩
def pre189 (v : V189) : Prop := v.Q = v.L ∧ v.L < 4611686018427387904 ∧ 0 ≤ v.a ∧ v.a ≤ v.b ∧ v.b ≤ v.L ∧ v.b - v.a ≤ 12
noncomputable def f189 (v : V189) : Tr (Fin th.R) := .need (pre189 v) (.leaf (.tup [], [.row 22 1 v.L (fun j => [.int .u64 (gt (Go.Sort.insertionSort Go.Sort.ltInt (ar v.F v.L) v.a.toNat v.b.toNat) j)])], [0]))
theorem walk189 {v0 : Value} {a b c : Int} {w : World} {Q : Ending → World → Prop} (h12 : wrap64 (b - a) ≤ 12) (h : Calls Try.prog 198 #[v0, .int .i64 a, .int .i64 b] w fun e w' => e = .returned (.tuple #[]) ∧ Q (.returned (.tuple #[])) w') :
    Calls Try.prog 189 #[v0, .int .i64 a, .int .i64 b, .int .i64 c] w Q := by
  go_enter Try.func189, Try.ntmps189
  go_wp2
  refine wp_loop_rounds 1 ?_
  rw [rounds_succ]
  go_wp2_with (go_at_call 198; refine h.mono ?_; rintro e w' ⟨rfl, hq⟩)
  go_end0
  exact hq
theorem s189 : Sound Try.prog th 189 (fnC d189 ofV189 f189) := by
  refine fnC_direct (T := th) d189 A189 H189 toV189 (by kernel_rfl) (fun v => by kernel_rfl) ?_ ?_ (fun v _ => by show 1 ≤ 1; decide) (fun v _ n hn hd => ?_)
  · intro l v h
    unfold ofV189 at h
    split at h
    · cases h; rfl
    · cases h
  · intro v hok K w0 ρ w vargs I hr
    obtain ⟨⟨hQ, hn, a0, hab, hb, h12⟩, _⟩ := hok
    obtain ⟨v0, xs, rfl, hv0, y, ys, rfl, hy, z, zs, rfl, hz, u, us, rfl, hu, hus⟩ := hr
    have hy : y = .int .i64 v.a := hy
    have hz : z = .int .i64 v.b := hz
    have hu : u = .int .i64 v.c := hu
    have hus : us = [] := hus
    subst hy hz hu hus
    have hc := fnC_out s198n (cw198 ⟨v.L, v.a, v.b, v.Q, v.F⟩) (⟨fun i _ => rfl, ⟨hQ, hn, a0, hab, hb⟩, trivial⟩ : _) I (vargs := [v0, .int .i64 v.a, .int .i64 v.b]) ⟨v0, _, rfl, hv0, _, _, rfl, rfl, _, _, rfl, rfl, rfl⟩
    refine walk189 (by unfold wrap64; omega) (hc.mono ?_)
    rintro e w' ⟨ρ', cv, rfl, hp, I', hcv⟩
    have hcv : cv = .tuple #[] := by
      obtain ⟨cs, rfl, hcs⟩ := hcv
      have hcs : cs = [] := hcs
      rw [hcs]
    subst hcv
    exact ⟨rfl, ρ', _, rfl, hp, I', ⟨[], rfl, rfl⟩⟩
  · have hn : n < 1 := hn
    have : n = 0 := by omega
    subst this
    exact absurd List.mem_cons_self hd
noncomputable def niceP7 : List (Nat × CF th.R) := (189, lift (fnC d189 ofV189 f189)) :: nice198n
theorem nokP7 : NiceOk Try.prog th niceP7 := ⟨lift_sound s189, nok198n⟩
end Go.Sx.M


namespace Go.Proofs
open Go.RowKit Go.Sort
abbrev encU : Int → Value := fun x => Value.int .u64 x
set_option maxRecDepth 1000000 in
set_option maxHeartbeats 1000000 in
theorem su_cmp_isNaN_int (x : Int) (w : World) : Calls Try.prog 219 #[.int .u64 x] w fun e w' => e = .returned (.bool false) ∧ w' = w := by
  go_enter Try.func219, Try.ntmps219
  go_wp2
  go_ret
  exact ⟨by simp, rfl⟩

set_option maxHeartbeats 1000000 in
theorem su_cmp_Less_int (x y : Int) (w : World) : Calls Try.prog 204 #[.int .u64 x, .int .u64 y] w fun e w' => e = .returned (.bool (Sort.ltInt x y)) ∧ w' = w := by
  go_enter Try.func204, Try.ntmps204
  go_wp2_with (go_at_call 219; refine (su_cmp_isNaN_int _ _).mono ?_; rintro e w' ⟨rfl, rfl⟩)
  go_ret
  exact ⟨rfl, rfl⟩

def OkOs (os : Array Obj) : Prop := ∀ o, o ∈ os → ∃ c t, o = .cells c t (0, 0)
abbrev OsU := {os : Array Obj // OkOs os}
theorem okNone : OkOs #[] := fun o h => by simp at h
theorem okOne (c : Array Value) (t : TypeId) : OkOs #[Obj.cells c t] := fun o h => by
  simp at h; exact ⟨c, t, h⟩
theorem okAppend {a b : Array Obj} (ha : OkOs a) (hb : OkOs b) : OkOs (a ++ b) := fun o h => by
  rcases Array.mem_append.1 h with h | h
  · exact ha o h
  · exact hb o h
def AtU {α : Type} [Inhabited α] (enc : α → Value) (w : World) (blk off : Nat) (d : Array α) (wr : World) : Prop := ∃ (n : Nat) (os : OsU), wr = grow (putRow enc (Sort.ahead w n) blk off d) os.1
section
variable {α : Type} [Inhabited α] {enc : α → Value} {w wr w1 : World} {blk off : Nat} {d d' d0 : Array α}
theorem AtU.refl (h : Holds enc w blk off d) : AtU enc w blk off d w := ⟨0, ⟨#[], okNone⟩, by rw [grow_empty, ahead_zero, putRow_self enc w blk off d h]⟩
theorem AtU.holds (h : AtU enc w blk off d wr) (h0 : Holds enc w blk off d0) (hs : d.size = d0.size) (hb : blk < w.heap.size) : Holds enc wr blk off d ∧ blk < wr.heap.size := by
  obtain ⟨n, os, rfl⟩ := h
  exact ⟨holds_grow enc _ os.1 blk off d (by simpa using hb) (holds_putRow enc _ blk off d0 d (holds_ahead enc w n blk off d0 h0) hs), by simp; omega⟩
theorem AtU.step (h : AtU enc w blk off d wr) (hb : blk < w.heap.size) (hs : d'.size = d.size) (h1 : ∃ m, w1 = putRow enc (Sort.ahead wr m) blk off d') : AtU enc w blk off d' w1 := by
  obtain ⟨n, os, rfl⟩ := h
  obtain ⟨m, rfl⟩ := h1
  exact ⟨n + m, os, grow_step enc w os.1 n m blk off d d' hb hs⟩
theorem AtU.stepG (h : AtU enc w blk off d wr) (hb : blk < w.heap.size) (hs : d'.size = d.size) (h1 : ∃ (m : Nat) (os' : OsU), w1 = grow (putRow enc (Sort.ahead wr m) blk off d') os'.1) : AtU enc w blk off d' w1 := by
  obtain ⟨n, os, rfl⟩ := h
  obtain ⟨m, os', rfl⟩ := h1
  exact ⟨n + m, ⟨os.1 ++ os'.1, okAppend os.2 os'.2⟩, grow_step_grow enc w os.1 os'.1 n m blk off d d' hb hs⟩
theorem AtU.same (h : AtU enc w blk off d wr) (h0 : Holds enc w blk off d0) (hs : d.size = d0.size) (hb : blk < w.heap.size) (h1 : ∃ (m : Nat) (os' : OsU), w1 = grow (Sort.ahead wr m) os'.1) : AtU enc w blk off d w1 := by
  obtain ⟨m, os', rfl⟩ := h1
  refine h.stepG hb rfl ⟨m, os', ?_⟩
  rw [putRow_self enc (Sort.ahead wr m) blk off d (holds_ahead enc wr m blk off d (h.holds h0 hs hb).1)]
theorem AtU.ahead (h : AtU enc w blk off d wr) (m : Nat) : AtU enc w blk off d (Sort.ahead wr m) := by
  obtain ⟨n, os, rfl⟩ := h
  exact ⟨n + m, os, by rw [← ahead_ahead]; rfl⟩
end
theorem counter_growU (w : World) (N S : Nat) : ∃ os : OsU, putRow (Value.int .i64) (Sort.ahead (w.alloc (.cells #[.int .i64 0] 3)) N) w.heap.size 0 (one S) = grow (Sort.ahead w N) os.1 := by
  refine ⟨⟨#[Obj.cells #[.int .i64 (S : Int)] 3], okOne _ _⟩, ?_⟩
  have hS0 : Holds (Value.int .i64) (Sort.ahead (w.alloc (.cells #[.int .i64 0] 3)) N) w.heap.size 0 (one 0) := holds_ahead _ _ _ _ _ _ fun j hj => by
    obtain rfl : j = 0 := by simpa using hj
    simp
  rw [← one_set hS0 S, alloc_eq_grow, ahead_grow]
  exact setCell_grow_one (Sort.ahead w N) (.int .i64 0) (.int .i64 (S : Int)) 3
end Go.Proofs

namespace Go.Proofs
open Go.RowKit Go.Sort
set_option maxHeartbeats 3200000 in
set_option maxRecDepth 1000000 in
theorem su_siftDown_int (blk off len cap : Nat) (d : Array Int) (hlen : d.size = len) (lo hi first : Nat) (w : World) (hH : Holds encU w blk off d) (hlo : lo ≤ hi) (hb : first + hi ≤ d.size) (hsz : d.size < 4611686018427387904) :
    Calls Try.prog 214 #[.slice (some ⟨blk, off, none⟩) len cap, .int .i64 lo, .int .i64 hi, .int .i64 first] w fun e w' => e = .returned (.tuple #[]) ∧ ∃ n, w' = putRow encU (Sort.ahead w n) blk off (siftDown ltInt hi first lo d) := by
  subst hlen
  go_enter Try.func214, Try.ntmps214
  go_wp2
  go_loopg [8] (hi - lo) (fun k s8 wr => ∃ (root : Nat) (dk : Array Int) (n : Nat), s8 = .int .i64 root ∧ root ≤ hi ∧ hi - root ≤ k ∧ dk.size = d.size ∧ wr = putRow encU (Sort.ahead w n) blk off dk ∧ siftDown ltInt hi first root dk = siftDown ltInt hi first lo d)
  case atStart => exact ⟨lo, d, 0, rfl, hlo, Nat.le_refl _, rfl, (putRow_self encU w blk off d hH).symm, rfl⟩
  case round =>
    obtain ⟨root, dk, n, rfl, hr, hk, hds, hwr, heq⟩ := hrel
    have hHk : Holds encU wr blk off dk := by rw [hwr]; exact holds_putRow encU _ blk off d dk (holds_ahead encU w n blk off d hH) hds
    -- THE ROW's TWO FAMILIES (the authors' Derived/CellFam.lean finds each cell in them)
    have hcw : ∀ t, t < d.size → wr.cell? ⟨blk, off + t, none⟩ = some (.int .u64 dk[t]!) := fun t ht => (hHk t (by omega)).1
    have hfw : ∀ t, t < d.size → wr.frozen? ⟨blk, off + t, none⟩ = false := fun t ht => (hHk t (by omega)).2
    have A : Aside (wr = putRow encU (Sort.ahead w n) blk off dk) := hwr
    clear hwr hH hHk
    by_cases h0 : hi ≤ 2 * root + 1
    · -- no child: the loop is left
      have h0z : (hi : Int) ≤ 2 * (root : Int) + 1 := by omega
      go_wp2
      go_end0
      refine ⟨rfl, n, ?_⟩
      rw [A.out, ← heq, sd_end ltInt dk h0]
    · -- (the tests, AS THE WALK SPELLS THEM: over Int: a guard that is not decided stops the quiet walk)
      have h0z : ¬ ((hi : Int) ≤ 2 * (root : Int) + 1) := by omega
      by_cases h1 : 2 * root + 2 < hi
      · have h1z : 2 * (root : Int) + 1 + 1 < (hi : Int) := by omega
        go_wp2_with fail
        go_big_quiet (first | (go_at_call 204; refine Calls.quiet_of_same (su_cmp_Less_int _ _ _)))
        go_wp2_with fail
        · -- THE RIGHT CHILD IS THE GREATER
          have hL : ltInt dk[first + 2 * root + 1]! dk[first + 2 * root + 2]! = true := by assumption
          revert nq; intro nq1      -- (the next quiet region brings an 'nq' of its own)
          have hcw2 : ∀ t, t < d.size → (wr.drewN nq1).cell? ⟨blk, off + t, none⟩ = some (.int .u64 dk[t]!) := hcw
          have hfw2 : ∀ t, t < d.size → (wr.drewN nq1).frozen? ⟨blk, off + t, none⟩ = false := hfw
          have A2 : Aside (wr.drewN nq1 = putRow encU (Sort.ahead w (n + nq1)) blk off dk) := drewN_world encU A.out nq1
          clear hcw hfw A
          generalize wr.drewN nq1 = wr2 at hcw2 hfw2 A2 ⊢
          go_big_quiet (first | (go_at_call 204; refine Calls.quiet_of_same (su_cmp_Less_int _ _ _)))
          go_wp2_with fail
          · -- the hole is not less than the greater child: return
            have hS : ltInt dk[first + root]! dk[first + 2 * root + 2]! = false := by
              have : (!ltInt dk[first + root]! dk[first + 2 * root + 2]!) = true := by assumption
              simpa using this
            (try simp only [Exit.inBlock, Exit.then]); refine bodyPost_ret (results_none rfl _ _ _) rfl ?_      -- (an explicit 'return' of a function without results)
            refine ⟨rfl, n + nq1 + nq, ?_⟩
            rw [drewN_world encU A2.out nq, ← heq, sd_right_stop ltInt dk h1 hL hS]
          · -- it is: they are swapped, and the hole goes down
            have hG : ltInt dk[first + root]! dk[first + 2 * root + 2]! = true := by
              have : (!ltInt dk[first + root]! dk[first + 2 * root + 2]!) = false := by assumption
              simpa using this
            have hcw3 : ∀ t, t < d.size → (wr2.drewN nq).cell? ⟨blk, off + t, none⟩ = some (.int .u64 dk[t]!) := hcw2
            have hfw3 : ∀ t, t < d.size → (wr2.drewN nq).frozen? ⟨blk, off + t, none⟩ = false := hfw2
            have A3 : Aside (wr2.drewN nq = putRow encU (Sort.ahead w (n + nq1 + nq)) blk off dk) := drewN_world encU A2.out nq
            clear hcw2 hfw2 A2
            generalize wr2.drewN nq = wr3 at hcw3 hfw3 A3 ⊢
            go_region
            go_wp2
            go_roundg (hi - (2 * root + 2))
            case measure => omega
            case rel =>
              refine ⟨2 * root + 2, swp dk (first + root) (first + (2 * root + 1 + 1)), n + nq1 + nq + 1, by simp <;> omega, by omega, Nat.le_refl _, by rw [size_swp]; exact hds, swap_world encU (by omega) (by omega) A3.out rfl rfl, ?_⟩
              rw [← heq, sd_right_go ltInt dk h1 hL hG]
        · -- THE LEFT CHILD IS NOT LESS THAN THE RIGHT
          have hL : ltInt dk[first + 2 * root + 1]! dk[first + 2 * root + 2]! = false := by assumption
          revert nq; intro nq1      -- (the next quiet region brings an 'nq' of its own)
          have hcw2 : ∀ t, t < d.size → (wr.drewN nq1).cell? ⟨blk, off + t, none⟩ = some (.int .u64 dk[t]!) := hcw
          have hfw2 : ∀ t, t < d.size → (wr.drewN nq1).frozen? ⟨blk, off + t, none⟩ = false := hfw
          have A2 : Aside (wr.drewN nq1 = putRow encU (Sort.ahead w (n + nq1)) blk off dk) := drewN_world encU A.out nq1
          clear hcw hfw A
          generalize wr.drewN nq1 = wr2 at hcw2 hfw2 A2 ⊢
          go_big_quiet (first | (go_at_call 204; refine Calls.quiet_of_same (su_cmp_Less_int _ _ _)))
          go_wp2_with fail
          · -- the hole is not less than the greater child: return
            have hS : ltInt dk[first + root]! dk[first + 2 * root + 1]! = false := by
              have : (!ltInt dk[first + root]! dk[first + 2 * root + 1]!) = true := by assumption
              simpa using this
            (try simp only [Exit.inBlock, Exit.then]); refine bodyPost_ret (results_none rfl _ _ _) rfl ?_      -- (an explicit 'return' of a function without results)
            refine ⟨rfl, n + nq1 + nq, ?_⟩
            rw [drewN_world encU A2.out nq, ← heq, sd_left_stop ltInt dk (by omega) (fun _ => hL) hS]
          · -- it is: they are swapped, and the hole goes down
            have hG : ltInt dk[first + root]! dk[first + 2 * root + 1]! = true := by
              have : (!ltInt dk[first + root]! dk[first + 2 * root + 1]!) = false := by assumption
              simpa using this
            have hcw3 : ∀ t, t < d.size → (wr2.drewN nq).cell? ⟨blk, off + t, none⟩ = some (.int .u64 dk[t]!) := hcw2
            have hfw3 : ∀ t, t < d.size → (wr2.drewN nq).frozen? ⟨blk, off + t, none⟩ = false := hfw2
            have A3 : Aside (wr2.drewN nq = putRow encU (Sort.ahead w (n + nq1 + nq)) blk off dk) := drewN_world encU A2.out nq
            clear hcw2 hfw2 A2
            generalize wr2.drewN nq = wr3 at hcw3 hfw3 A3 ⊢
            go_region
            go_wp2
            go_roundg (hi - (2 * root + 1))
            case measure => omega
            case rel =>
              refine ⟨2 * root + 1, swp dk (first + root) (first + (2 * root + 1)), n + nq1 + nq + 1, by simp <;> omega, by omega, Nat.le_refl _, by rw [size_swp]; exact hds, swap_world encU (by omega) (by omega) A3.out rfl rfl, ?_⟩
              rw [← heq, sd_left_go ltInt dk (by omega) (fun _ => hL) hG]
      · -- THERE IS NO RIGHT CHILD
        have h1z : decide (2 * (root : Int) + 1 + 1 < (hi : Int)) = false := decide_eq_false (by omega)      -- (a guard that is FALSE: said so outright: from '¬ ..' the walk did not decide it)
        go_wp2_with fail
        go_big_quiet (first | (go_at_call 204; refine Calls.quiet_of_same (su_cmp_Less_int _ _ _)))
        go_wp2_with fail
        revert nq; intro nq1      -- (the next quiet region brings an 'nq' of its own)
        have hcw2 : ∀ t, t < d.size → (wr.drewN nq1).cell? ⟨blk, off + t, none⟩ = some (.int .u64 dk[t]!) := hcw
        have hfw2 : ∀ t, t < d.size → (wr.drewN nq1).frozen? ⟨blk, off + t, none⟩ = false := hfw
        have A2 : Aside (wr.drewN nq1 = putRow encU (Sort.ahead w (n + nq1)) blk off dk) := drewN_world encU A.out nq1
        clear hcw hfw A
        generalize wr.drewN nq1 = wr2 at hcw2 hfw2 A2 ⊢
        go_big_quiet (first | (go_at_call 204; refine Calls.quiet_of_same (su_cmp_Less_int _ _ _)))
        go_wp2_with fail
        · -- the hole is not less than the greater child: return
          have hS : ltInt dk[first + root]! dk[first + 2 * root + 1]! = false := by
            have : (!ltInt dk[first + root]! dk[first + 2 * root + 1]!) = true := by assumption
            simpa using this
          (try simp only [Exit.inBlock, Exit.then]); refine bodyPost_ret (results_none rfl _ _ _) rfl ?_      -- (an explicit 'return' of a function without results)
          refine ⟨rfl, n + nq1 + nq, ?_⟩
          rw [drewN_world encU A2.out nq, ← heq, sd_left_stop ltInt dk (by omega) (fun h => absurd h h1) hS]
        · -- it is: they are swapped, and the hole goes down
          have hG : ltInt dk[first + root]! dk[first + 2 * root + 1]! = true := by
            have : (!ltInt dk[first + root]! dk[first + 2 * root + 1]!) = false := by assumption
            simpa using this
          have hcw3 : ∀ t, t < d.size → (wr2.drewN nq).cell? ⟨blk, off + t, none⟩ = some (.int .u64 dk[t]!) := hcw2
          have hfw3 : ∀ t, t < d.size → (wr2.drewN nq).frozen? ⟨blk, off + t, none⟩ = false := hfw2
          have A3 : Aside (wr2.drewN nq = putRow encU (Sort.ahead w (n + nq1 + nq)) blk off dk) := drewN_world encU A2.out nq
          clear hcw2 hfw2 A2
          generalize wr2.drewN nq = wr3 at hcw3 hfw3 A3 ⊢
          go_region
          go_wp2
          go_roundg (hi - (2 * root + 1))
          case measure => omega
          case rel =>
            refine ⟨2 * root + 1, swp dk (first + root) (first + (2 * root + 1)), n + nq1 + nq + 1, by simp <;> omega, by omega, Nat.le_refl _, by rw [size_swp]; exact hds, swap_world encU (by omega) (by omega) A3.out rfl rfl, ?_⟩
            rw [← heq, sd_left_go ltInt dk (by omega) (fun h => absurd h h1) hG]

set_option maxHeartbeats 3200000 in
set_option maxRecDepth 1000000 in
theorem su_heapSort_int (blk off len cap : Nat) (d : Array Int) (hlen : d.size = len) (a b : Nat) (w : World) (hH : Holds encU w blk off d) (hab : a ≤ b) (hb : b ≤ d.size) (hsz : d.size < 4611686018427387904) :
    Calls Try.prog 199 #[.slice (some ⟨blk, off, none⟩) len cap, .int .i64 a, .int .i64 b] w fun e w' => e = .returned (.tuple #[]) ∧ ∃ n, w' = putRow encU (Sort.ahead w n) blk off (heapSort ltInt d a b) := by
  subst hlen
  have ecast : ((b - a : Nat) : Int) = (b : Int) - (a : Int) := by omega
  go_enter Try.func199, Try.ntmps199
  go_wp2
  go_loopg [9] ((b - a - 1) / 2 + 1) (fun k s9 wr => s9 = .int .i64 ((k : Int) - 1) ∧ k ≤ (b - a - 1) / 2 + 1 ∧ ∃ (dk : Array Int) (n : Nat), dk.size = d.size ∧ wr = putRow encU (Sort.ahead w n) blk off dk ∧
    heapBuild ltInt (b - a) a k dk = heapBuild ltInt (b - a) a ((b - a - 1) / 2 + 1) d)
  case atStart => exact ⟨by rw [half_start hab], Nat.le_refl _, d, 0, rfl, (putRow_self encU w blk off d hH).symm, rfl⟩
  case round =>
    obtain ⟨rfl, hkk, dk, n, hds, hwr, heq⟩ := hrel
    have hHk : Holds encU wr blk off dk := by rw [hwr]; exact holds_putRow encU _ blk off d dk (holds_ahead encU w n blk off d hH) hds
    have A : Aside (wr = putRow encU (Sort.ahead w n) blk off dk) := hwr
    clear hwr
    cases gk with
    | zero =>
      -- THE HEAP IS BUILT; NOW THE GREATEST IS TAKEN OFF, TIME AND AGAIN
      have hB : dk = heapBuild ltInt (b - a) a ((b - a - 1) / 2 + 1) d := heq
      clear heq hHk hkk
      go_wp2
      go_loopg [10] (b - a) (fun k s10 wr2 => s10 = .int .i64 ((k : Int) - 1) ∧ k ≤ b - a ∧ ∃ (dj : Array Int) (n2 : Nat), dj.size = d.size ∧ wr2 = putRow encU (Sort.ahead w n2) blk off dj ∧ heapPop ltInt a k dj = heapPop ltInt a (b - a) dk)
      case atStart => exact ⟨by rw [ecast], Nat.le_refl _, dk, n, hds, A.out, rfl⟩
      case round =>
        obtain ⟨rfl, hkk, dj, n2, hdj, hwr2, heq2⟩ := hrel
        cases gk with
        | zero =>
          go_wp2
          go_end0
          refine ⟨rfl, n2, ?_⟩
          have e : dj = heapSort ltInt d a b := by rw [heapSort, ← hB, ← heq2]; rfl
          rw [← e]
        | succ k =>
          have hHj : Holds encU wr blk off dj := by rw [hwr2]; exact holds_putRow encU _ blk off d dj (holds_ahead encU w n2 blk off d hH) hdj
          have hcw : ∀ t, t < d.size → wr.cell? ⟨blk, off + t, none⟩ = some (.int .u64 dj[t]!) := fun t ht => (hHj t (by omega)).1
          have hfw : ∀ t, t < d.size → wr.frozen? ⟨blk, off + t, none⟩ = false := fun t ht => (hHj t (by omega)).2
          have A2 : Aside (wr = putRow encU (Sort.ahead w n2) blk off dj) := hwr2
          clear hwr2 hHj
          -- ✋ AT THE LAST ROUND (i = 0) 'data[first]' AND 'data[first+i]' ARE ONE CELL: the walk cannot tell whether the second store hits the cell just written: PART AHEAD OF THE REGION
          rcases Nat.eq_zero_or_pos k with hk0 | hkp
          · subst hk0
            go_wp2_with fail
            go_region
            go_wp2_with fail
            rw [swap_world encU (i := a) (j := a) (by omega) (by omega) A2.out rfl rfl]
            refine (su_siftDown_int blk off d.size cap (swp dj a (a)) (by rw [size_swp]; exact hdj) 0 0 a _ (holds_putRow encU _ blk off d _ (holds_ahead encU w (n2 + 1) blk off d hH) (by rw [size_swp]; exact hdj)) (Nat.zero_le _) (by rw [size_swp]; omega) (by rw [size_swp]; omega)).mono ?_
            rintro e w1 ⟨rfl, m, hw1⟩
            go_wp2
            go_roundg 0
            case measure => omega
            case rel =>
              refine ⟨by simp, by omega, siftDown ltInt 0 a 0 (swp dj a (a)), n2 + 1 + m, by rw [size_siftDown ltInt _ _ _ _ _ (Nat.le_refl _), size_swp]; exact hdj, ?_, heq2⟩
              first
                | rw [hw1, putRow_ahead_putRow encU w (n2 + 1) m blk off _ _ (size_siftDown ltInt _ _ _ _ _ (Nat.le_refl _))]
                | rw [putRow_ahead_putRow encU w (n2 + 1) m blk off _ _ (size_siftDown ltInt _ _ _ _ _ (Nat.le_refl _))]
          · skip
            go_wp2_with fail
            go_region
            go_wp2_with fail
            rw [swap_world encU (i := a) (j := a + k) (by omega) (by omega) A2.out rfl rfl]
            refine (su_siftDown_int blk off d.size cap (swp dj a (a + k)) (by rw [size_swp]; exact hdj) 0 k a _ (holds_putRow encU _ blk off d _ (holds_ahead encU w (n2 + 1) blk off d hH) (by rw [size_swp]; exact hdj)) (Nat.zero_le _) (by rw [size_swp]; omega) (by rw [size_swp]; omega)).mono ?_
            rintro e w1 ⟨rfl, m, hw1⟩
            go_wp2
            go_roundg k
            case measure => omega
            case rel =>
              refine ⟨by simp, by omega, siftDown ltInt k a 0 (swp dj a (a + k)), n2 + 1 + m, by rw [size_siftDown ltInt _ _ _ _ _ (Nat.le_refl _), size_swp]; exact hdj, ?_, heq2⟩
              first
                | rw [hw1, putRow_ahead_putRow encU w (n2 + 1) m blk off _ _ (size_siftDown ltInt _ _ _ _ _ (Nat.le_refl _))]
                | rw [putRow_ahead_putRow encU w (n2 + 1) m blk off _ _ (size_siftDown ltInt _ _ _ _ _ (Nat.le_refl _))]
    | succ k =>
      have hcall := su_siftDown_int blk off d.size cap dk hds k (b - a) a wr hHk (by omega) (by omega) (by omega)
      rw [ecast] at hcall
      go_wp2_with (go_at_call 214; refine hcall.mono ?_; rintro e w1 ⟨rfl, m, hw1⟩)
      go_roundg k
      case measure => omega
      case rel =>
        refine ⟨by simp, by omega, siftDown ltInt (b - a) a k dk, n + m, by rw [size_siftDown ltInt _ _ _ _ _ (Nat.le_refl _)]; exact hds, ?_, heq⟩
        rw [A.out, putRow_ahead_putRow encU w n m blk off dk _ (size_siftDown ltInt _ _ _ _ _ (Nat.le_refl _))]
end Go.Proofs

namespace Go.Proofs
open Go.RowKit Go.Sort
set_option maxHeartbeats 1600000 in
set_option maxRecDepth 1000000 in
theorem su_reverseRange_int (blk off cap : Nat) (d : Array Int) (a b : Nat) (w : World) (hH : Holds encU w blk off d) (hab : a ≤ b) (hb : b ≤ d.size) (hsz : d.size < 4611686018427387904) :
    Calls Try.prog 202 #[.slice (some ⟨blk, off, none⟩) d.size cap, .int .i64 a, .int .i64 b] w fun e w' => e = .returned (.tuple #[]) ∧ ∃ n, w' = putRow encU (Sort.ahead w n) blk off (reverseRange d a b) := by
  go_enter Try.func202, Try.ntmps202
  go_wp2
  go_loopg [6, 7] (b - a) (fun k s6 s7 wr => ∃ (i jn : Nat) (jz : Int) (dk : Array Int) (n : Nat), s6 = .int .i64 i ∧ s7 = .int .i64 jz ∧ ((i : Int) < jz → jz = jn ∧ jn < d.size) ∧ (¬ (i : Int) < jz → ¬ i < jn) ∧ jn - i ≤ k ∧
    dk.size = d.size ∧ wr = putRow encU (Sort.ahead w n) blk off dk ∧ reverseLoop i jn dk = reverseLoop a (b - 1) d)
  case atStart => exact ⟨a, b - 1, (b : Int) - 1, d, 0, rfl, rfl, fun h => ⟨by omega, by omega⟩, fun h => by omega, by omega, rfl, (putRow_self encU w blk off d hH).symm, rfl⟩
  case round =>
    obtain ⟨i, jn, jz, dk, n, rfl, rfl, h1, h2, hk, hds, hwr, heq⟩ := hrel
    by_cases hlt : (i : Int) < jz
    · obtain ⟨rfl, hjn⟩ := h1 hlt
      have hij : i < jn := by omega
      have hHk : Holds encU wr blk off dk := by rw [hwr]; exact holds_putRow encU _ blk off d dk (holds_ahead encU w n blk off d hH) hds
      obtain ⟨ci, fi⟩ := hHk i (by omega)
      obtain ⟨cj, fj⟩ := hHk jn (by omega)
      have A : Aside (wr = putRow encU (Sort.ahead w n) blk off dk) := hwr
      clear hwr hHk hH h1 h2
      go_wp2_with fail
      go_region
      go_wp2
      go_roundg (jn - 1 - (i + 1))
      case measure => omega
      case rel =>
        rw [reverseLoop, if_pos hij] at heq
        exact ⟨i + 1, jn - 1, (jn : Int) - 1, swp dk i jn, n + 1, by simp, rfl, fun h => ⟨by omega, by omega⟩, fun h => by omega, Nat.le_refl _, by rw [size_swp]; exact hds,
          swap_world encU (by omega) (by omega) A.out (by simp [encU, getElem!_pos, show jn < dk.size by omega]) rfl, heq⟩
    · have hnot := h2 hlt
      go_wp2
      go_end0
      refine ⟨rfl, n, ?_⟩
      rw [reverseLoop, if_neg hnot] at heq
      rw [reverseRange, ← heq]
end Go.Proofs

namespace Go.Proofs
open Go.RowKit Go.Sort
structure CalleesU : Prop where
  ins : ∀ (blk off cap a b : Nat) (d : Array Int) (w : World), Holds encU w blk off d → a ≤ b → b ≤ d.size → d.size < 4611686018427387904 →
    Calls Try.prog 198 #[.slice (some ⟨blk, off, none⟩) d.size cap, .int .i64 a, .int .i64 b] w fun e w' => e = .returned (.tuple #[]) ∧ ∃ n, w' = putRow encU (Sort.ahead w n) blk off (insertionSort ltInt d a b)
  brk : ∀ (blk off cap a b : Nat) (d : Array Int) (w : World), Holds encU w blk off d → blk < w.heap.size → a ≤ b → b ≤ d.size → d.size < 4611686018427387904 →
    Calls Try.prog 200 #[.slice (some ⟨blk, off, none⟩) d.size cap, .int .i64 a, .int .i64 b] w fun e w' => e = .returned (.tuple #[]) ∧ ∃ (n : Nat) (os : OsU), w' = grow (putRow encU (Sort.ahead w n) blk off (breakPatterns d a b)) os.1
  piv : ∀ (blk off cap a b : Nat) (d : Array Int) (w : World), Holds encU w blk off d → blk < w.heap.size → a < b → b ≤ d.size → d.size < 4611686018427387904 →
    Calls Try.prog 201 #[.slice (some ⟨blk, off, none⟩) d.size cap, .int .i64 a, .int .i64 b] w fun e w' => e = .returned (.tuple #[.int .i64 (choosePivot ltInt d a b).1, .int .i64 (hintCode (choosePivot ltInt d a b).2)]) ∧ ∃ (n : Nat) (os : OsU), w' = grow (Sort.ahead w n) os.1
  par : ∀ (blk off cap a b : Nat) (d : Array Int) (w : World), Holds encU w blk off d → a < b → b ≤ d.size → d.size < 4611686018427387904 →
    Calls Try.prog 203 #[.slice (some ⟨blk, off, none⟩) d.size cap, .int .i64 a, .int .i64 b] w fun e w' => e = .returned (.bool (partialInsertionSort ltInt d a b).2) ∧ ∃ n, w' = putRow encU (Sort.ahead w n) blk off (partialInsertionSort ltInt d a b).1
  peq : ∀ (blk off cap a b pivot : Nat) (d : Array Int) (w : World), Holds encU w blk off d → a ≤ pivot → pivot < b → b ≤ d.size → d.size < 4611686018427387904 →
    Calls Try.prog 205 #[.slice (some ⟨blk, off, none⟩) d.size cap, .int .i64 a, .int .i64 b, .int .i64 pivot] w fun e w' => e = .returned (.int .i64 (partitionEqual ltInt d a b pivot).1) ∧ ∃ n, w' = putRow encU (Sort.ahead w n) blk off (partitionEqual ltInt d a b pivot).2
  prt : ∀ (blk off cap a b pivot : Nat) (d : Array Int) (w : World), Holds encU w blk off d → a ≤ pivot → pivot < b → b ≤ d.size → d.size < 4611686018427387904 →
    Calls Try.prog 206 #[.slice (some ⟨blk, off, none⟩) d.size cap, .int .i64 a, .int .i64 b, .int .i64 pivot] w fun e w' => e = .returned (.tuple #[.int .i64 (partition ltInt d a b pivot).1, .bool (partition ltInt d a b pivot).2.1]) ∧ ∃ n, w' = putRow encU (Sort.ahead w n) blk off (partition ltInt d a b pivot).2.2

set_option maxHeartbeats 6400000 in
set_option maxRecDepth 1000000 in
theorem su_pdqsort_int (C : CalleesU) (S : Plain13) : ∀ (N blk off cap a b limit : Nat) (d : Array Int) (w : World), b - a < N → Holds encU w blk off d → blk < w.heap.size → a ≤ b → b ≤ d.size → d.size < 4611686018427387904 → limit < 4611686018427387904 → Below ltInt a b d →
    Calls Try.prog 189 #[.slice (some ⟨blk, off, none⟩) d.size cap, .int .i64 a, .int .i64 b, .int .i64 limit] w fun e w' => e = .returned (.tuple #[]) ∧ AtU encU w blk off (pdq ltInt d a b limit true true) w' := by
  intro N
  induction N with
  | zero => intro _ _ _ _ _ _ _ _ h; exact absurd h (Nat.not_lt_zero _)
  | succ N ih =>
    intro blk off cap a b limit d w hN hH hblk hab hb hsz hlimit hBel0
    go_enter Try.func189, Try.ntmps189
    go_wp2
    go_loopg [1, 2, 3, 8, 9] (b - a) (fun k s1 s2 s3 s8 s9 wr => ∃ (a' b' lim : Nat) (wb wp : Bool) (dk : Array Int), s1 = .int .i64 a' ∧ s2 = .int .i64 b' ∧ s3 = .int .i64 lim ∧ s8 = .bool wb ∧ s9 = .bool wp ∧
      a' ≤ b' ∧ b' ≤ d.size ∧ b' - a' ≤ k ∧ k ≤ b - a ∧ lim ≤ limit ∧ dk.size = d.size ∧ Below ltInt a' b' dk ∧ AtU encU w blk off dk wr ∧ pdq ltInt dk a' b' lim wb wp = pdq ltInt d a b limit true true)
    case atStart => exact ⟨a, b, limit, true, true, d, rfl, rfl, rfl, rfl, rfl, hab, hb, Nat.le_refl _, Nat.le_refl _, Nat.le_refl _, rfl, hBel0, AtU.refl hH, rfl⟩
    case round =>
      obtain ⟨a', b', lim, wb, wp, dk, rfl, rfl, rfl, rfl, rfl, hab', hb', hk, hkN, hlim, hds, hBel, hAt, heq⟩ := hrel
      obtain ⟨hHk, hblk'⟩ := hAt.holds hH hds hblk
      have A : Aside (pdq ltInt dk a' b' lim wb wp = pdq ltInt d a b limit true true) := heq
      clear heq
      by_cases h12 : b' - a' ≤ 12
      · -- 'if length <= maxInsertion'
        have h12z : (b' : Int) - (a' : Int) ≤ 12 := by omega
        have hc := C.ins blk off cap a' b' dk wr hHk hab' (by omega) (by omega)
        rw [hds] at hc
        go_wp2_with (go_at_call 198; refine hc.mono ?_; rintro e w1 ⟨rfl, hw1⟩)
        (try simp only [Exit.inBlock, Exit.then]); refine bodyPost_ret (results_none rfl _ _ _) rfl ?_
        refine ⟨rfl, ?_⟩
        rw [← A.out, pdq_small h12]
        exact hAt.step hblk (S.ins S.swo dk a' b' hab' (by omega)).1.1 hw1
      · have h12z : ¬ ((b' : Int) - (a' : Int) ≤ 12) := by omega
        by_cases hl0 : lim = 0
        · -- 'if limit == 0'
          subst hl0
          have hc := su_heapSort_int blk off d.size cap dk hds a' b' wr hHk hab' (by omega) (by omega)
          go_wp2_with (go_at_call 199; refine hc.mono ?_; rintro e w1 ⟨rfl, hw1⟩)
          (try simp only [Exit.inBlock, Exit.then]); refine bodyPost_ret (results_none rfl _ _ _) rfl ?_
          refine ⟨rfl, ?_⟩
          rw [← A.out, pdq_heap h12 rfl]
          exact hAt.step hblk (heapSort_holds S.swo dk a' b' hab' (by omega)).1.1 hw1
        · have hl0z : ¬ ((lim : Int) = 0) := by omega
          -- THE ROUND's VALUES: sizes, ranges, 'Below', stage by stage
          obtain ⟨s1, B1, hc1, s2, B2, hpv, s3, B3⟩ := rd_facts (limit := lim) (wb := wb) (wp := wp) S.swo S.par reverseRange_holds (show a' < b' by omega) (show b' ≤ dk.size by omega) hBel
          -- ████ 'if !wasBalanced { breakPatterns; limit-- }': THE WAYS MEET
          go_upto_if 35 with fail
          go_cut [3] from 19 (fun s3 wc => s3 = .int .i64 (rd ltInt dk a' b' lim wb wp).lim ∧ AtU encU w blk off (rd ltInt dk a' b' lim wb wp).d1 wc)
          case first =>
            cases wb
            · have hc := C.brk blk off cap a' b' dk wr hHk hblk' hab' (by omega) (by omega)
              rw [hds] at hc
              go_wp2_with (go_at_call 200; refine hc.mono ?_; rintro e w1 ⟨rfl, hw1⟩)
              go_meet
              case rel =>
                refine ⟨?_, hAt.stepG hblk s1 hw1⟩
                show Value.int .i64 ((lim : Int) - 1) = Value.int .i64 ((lim - 1 : Nat) : Int)
                congr 1
                omega
            · go_wp2_with fail
              go_meet
              case rel => exact ⟨rfl, hAt⟩
          case rest =>
            obtain ⟨rfl, hAt1⟩ := hcut
            obtain ⟨hH1, hblk1⟩ := hAt1.holds hH (s1.trans hds) hblk
            have hc17 : Calls Try.prog 201 #[.slice (some ⟨blk, off, none⟩) d.size cap, .int .i64 a', .int .i64 b'] wc fun e w' => e = .returned (.tuple #[.int .i64 (rd ltInt dk a' b' lim wb wp).c.1, .int .i64 (hintCode (rd ltInt dk a' b' lim wb wp).c.2)]) ∧ ∃ (n : Nat) (os : OsU), w' = grow (Sort.ahead wc n) os.1 := by
              have := C.piv blk off cap a' b' (rd ltInt dk a' b' lim wb wp).d1 wc hH1 hblk1 (by omega) (by omega) (by omega)
              rw [s1, hds] at this
              exact this
            go_upto_if 50 with (go_at_call 201; refine hc17.mono ?_; rintro e w2 ⟨rfl, hw2⟩)
            have hAt2 : AtU encU w blk off (rd ltInt dk a' b' lim wb wp).d1 w2 := hAt1.same hH (s1.trans hds) hblk hw2
            obtain ⟨hH2, hblk2⟩ := hAt2.holds hH (s1.trans hds) hblk
            -- ████ 'if hint == decreasingHint { reverseRange; pivot = ..; hint = increasingHint }': THE WAYS MEET
            go_cut [11, 12] from 19 (fun s11 s12 wc => s11 = .int .i64 (rd ltInt dk a' b' lim wb wp).pivot ∧ s12 = .int .i64 (hintCode (rd ltInt dk a' b' lim wb wp).hint) ∧ AtU encU w blk off (rd ltInt dk a' b' lim wb wp).d2 wc)
            case first =>
              by_cases hh : (rd ltInt dk a' b' lim wb wp).c.2 = .decreasing
              · have hcode : hintCode (rd ltInt dk a' b' lim wb wp).c.2 = 2 := by rw [hh]; rfl
                obtain ⟨e2, epv, eht⟩ := rd_dec hh
                have hc18 := su_reverseRange_int blk off cap (rd ltInt dk a' b' lim wb wp).d1 a' b' w2 hH2 hab' (by omega) (by omega)
                rw [s1, hds] at hc18
                go_wp2_with (go_at_call 202; refine hc18.mono ?_; rintro e w3 ⟨rfl, hw3⟩)
                go_meet
                case rel =>
                  refine ⟨?_, by rw [eht]; rfl, by rw [e2]; exact hAt2.step hblk (by rw [← e2, s2, s1]) hw3⟩
                  rw [epv]
                  congr 1
                  omega
              · have hcode : ¬ (hintCode (rd ltInt dk a' b' lim wb wp).c.2 = 2) := fun h => hh (hintCode_two h)
                obtain ⟨e2, epv, eht⟩ := rd_not hh
                go_wp2_with fail
                go_meet
                case rel => exact ⟨by rw [epv], by rw [eht], by rw [e2]; exact hAt2⟩
            case rest =>
              obtain ⟨rfl, rfl, hAt3⟩ := hcut
              obtain ⟨hH3, hblk3⟩ := hAt3.holds hH (s2.trans hds) hblk
              -- ████ THE TEST 'wasBalanced && wasPartitioned && hint == increasingHint', over Booleans that are variables: THE WAYS THROUGH THE REGION MEET
              go_upto_region 15 with fail
              go_cut [12, 68] from 19 (fun s12 s68 wx => s12 = .int .i64 (hintCode (rd ltInt dk a' b' lim wb wp).hint) ∧ s68 = .bool (wb && wp && decide ((rd ltInt dk a' b' lim wb wp).hint = .increasing)) ∧ wx = wc)
              case first =>
                cases wb <;> cases wp <;> cases hh3 : (rd ltInt dk a' b' lim _ _).hint <;>
                  (have hcode3 := congrArg hintCode hh3
                   simp only [hintCode] at hcode3
                   go_wp2_with fail
                   go_meet
                   exact ⟨by simp [hh3, hintCode], by simp [hh3, hintCode], rfl⟩)
              case rest =>
                obtain ⟨rfl, rfl, rfl⟩ := hcut
                -- ████ 'if .. { if partialInsertionSort(..) { return } }': THE WAYS MEET (one returns)
                go_upto_if 68 with fail
                go_cut [] from 19 (fun wx => (rd ltInt dk a' b' lim wb wp).pi.2 = false ∧ AtU encU w blk off (rd ltInt dk a' b' lim wb wp).pi.1 wx)
                case first =>
                  cases h68 : (wb && wp && decide ((rd ltInt dk a' b' lim wb wp).hint = .increasing))
                  · have epi := rd_pi_no h68
                    go_wp2_with fail
                    go_meet
                    case rel => exact ⟨by rw [epi], by rw [epi]; exact hAt3⟩
                  · have epi := rd_pi_yes h68
                    have hc19 := C.par blk off cap a' b' (rd ltInt dk a' b' lim wb wp).d2 wc hH3 (by omega) (by omega) (by omega)
                    rw [s2, hds, ← epi] at hc19
                    go_wp2_with (go_at_call 203; refine hc19.mono ?_; rintro e w4 ⟨rfl, hw4⟩)
                    -- (the walk parts on what the callee says: each way is closed by the script that fits it)
                    all_goals first
                      | (have hp2 : (rd ltInt dk a' b' lim wb wp).pi.2 = false := by rw [epi]; assumption
                         go_meet
                         exact ⟨hp2, hAt3.step hblk (by rw [s3, s2]) hw4⟩)
                      | (have hp2 : (rd ltInt dk a' b' lim wb wp).pi.2 = true := by rw [epi]; assumption
                         (try simp only [Exit.inBlock, Exit.then]); refine bodyPost_ret (results_none rfl _ _ _) rfl ?_
                         refine ⟨rfl, ?_⟩
                         rw [← A.out, pdq_done h12 hl0 hp2]
                         exact hAt3.step hblk (by rw [s3, s2]) hw4)
                case rest =>
                  obtain ⟨hp2, hAt5⟩ := hcut
                  obtain ⟨hH5, hblk5⟩ := hAt5.holds hH (s3.trans hds) hblk
                  -- THE ROW's TWO FAMILIES (the authors' Derived/CellFam.lean)
                  have hcw : ∀ t, t < d.size → wc.cell? ⟨blk, off + t, none⟩ = some (.int .u64 (rd ltInt dk a' b' lim wb wp).pi.1[t]!) := fun t ht => (hH5 t (by omega)).1
                  have hfw : ∀ t, t < d.size → wc.frozen? ⟨blk, off + t, none⟩ = false := fun t ht => (hH5 t (by omega)).2
                  -- ████ THE TEST 'a > 0 && !cmp.Less(data[a-1], data[pivot])': it draws; its guard must be parted on: THE WAYS THROUGH THE REGION MEET
                  go_upto_region 17 with fail
                  go_cut [87] from 19 (fun s87 wx => s87 = .bool (decide (a' > 0) && !ltInt (rd ltInt dk a' b' lim wb wp).pi.1[a' - 1]! (rd ltInt dk a' b' lim wb wp).pi.1[(rd ltInt dk a' b' lim wb wp).pivot]!) ∧ AtU encU w blk off (rd ltInt dk a' b' lim wb wp).pi.1 wx)
                  case first =>
                    rcases Nat.eq_zero_or_pos a' with ha0 | ha0
                    · have ha0z : decide ((a' : Int) > 0) = false := decide_eq_false (by omega)
                      go_big_quiet (first | (go_at_call 204; refine Calls.quiet_of_same (su_cmp_Less_int _ _ _)))
                      go_wp2_with fail
                      go_meet
                      case rel => exact ⟨by simp [ha0], hAt5.ahead nq⟩
                    · have ha0z : (a' : Int) > 0 := by omega
                      go_big_quiet (first | (go_at_call 204; refine Calls.quiet_of_same (su_cmp_Less_int _ _ _)))
                      go_wp2_with fail
                      go_meet
                      case rel => exact ⟨by simp [ha0], hAt5.ahead nq⟩
                  case rest =>
                    obtain ⟨rfl, hAt6⟩ := hcut
                    obtain ⟨hH6, hblk6⟩ := hAt6.holds hH (s3.trans hds) hblk
                    clear hcw hfw
                    cases h87 : (decide (a' > 0) && !ltInt (rd ltInt dk a' b' lim wb wp).pi.1[a' - 1]! (rd ltInt dk a' b' lim wb wp).pi.1[(rd ltInt dk a' b' lim wb wp).pivot]!)
                    · -- ████ 'mid, alreadyPartitioned := partitionOrdered(..)'; THE SMALLER SIDE BY A CALL OF ITSELF, the other by the next round
                      -- (✋ WHAT THE PARTITION GIVES, AS VARIABLES WITH ONE EQUATION: handed 'rfl' for it, the unifier UNFOLDED 'partition' to find the triple's parts, and the ranges came back over 'partLoop ..': nothing met them any more)
                      obtain ⟨mid, ap, d4, hx⟩ : ∃ mid ap d4, partition ltInt (rd ltInt dk a' b' lim wb wp).pi.1 a' b' (rd ltInt dk a' b' lim wb wp).pivot = (mid, ap, d4) := ⟨(partition ltInt (rd ltInt dk a' b' lim wb wp).pi.1 a' b' (rd ltInt dk a' b' lim wb wp).pivot).1, (partition ltInt (rd ltInt dk a' b' lim wb wp).pi.1 a' b' (rd ltInt dk a' b' lim wb wp).pivot).2.1, (partition ltInt (rd ltInt dk a' b' lim wb wp).pi.1 a' b' (rd ltInt dk a' b' lim wb wp).pivot).2.2, rfl⟩
                      obtain ⟨r1, r2, r3, r4, r5, r6, r7⟩ := round_part S.swo S.prt hpv.1 hpv.2 (show b' ≤ (rd ltInt dk a' b' lim wb wp).pi.1.size by omega) B3 hx
                      have hc22 := C.prt blk off cap a' b' (rd ltInt dk a' b' lim wb wp).pivot (rd ltInt dk a' b' lim wb wp).pi.1 wc hH6 hpv.1 hpv.2 (by omega) (by omega)
                      rw [s3, hds, hx] at hc22
                      have X : Aside (partition ltInt (rd ltInt dk a' b' lim wb wp).pi.1 a' b' (rd ltInt dk a' b' lim wb wp).pivot = (mid, ap, d4)) := hx
                      clear hx
                      go_upto_if 113 with (go_at_call 206; refine hc22.mono ?_; rintro e w7 ⟨rfl, hw7⟩)
                      have hx := X.out
                      have hAt7 : AtU encU w blk off d4 w7 := hAt6.step hblk r3 hw7
                      obtain ⟨hH7, hblk7⟩ := hAt7.holds hH (r3.trans (s3.trans hds)) hblk
                      by_cases h4 : mid - a' < b' - mid
                      · have h4z : (mid : Int) - (a' : Int) < (b' : Int) - (mid : Int) := by omega
                        have hih := ih blk off cap a' mid (rd ltInt dk a' b' lim wb wp).lim d4 w7 (by omega) hH7 hblk7 (by omega) (by omega) (by omega) (Nat.lt_of_le_of_lt (Nat.le_trans rd_lim_le hlim) hlimit) r4
                        rw [r3, s3, hds] at hih
                        obtain ⟨pL, sL⟩ := S.pdq S.swo d4 a' mid (rd ltInt dk a' b' lim wb wp).lim true true (by omega) (by omega) r4
                        go_wp2_with (go_at_call 189; refine hih.mono ?_; rintro e w8 ⟨rfl, hw8⟩)
                        go_roundg (b' - (mid + 1))
                        case measure => omega
                        case rel =>
                          refine ⟨mid + 1, b', (rd ltInt dk a' b' lim wb wp).lim, decide (mid - a' ≥ (b' - a') / 8), ap, pdq ltInt d4 a' mid (rd ltInt dk a' b' lim wb wp).lim true true, by simp, rfl, rfl, ?_, rfl, by omega, by omega, Nat.le_refl _, by omega, Nat.le_trans rd_lim_le hlim, by rw [pL.1, r3, s3, hds], (r6 _ pL sL).1, hAt7.stepG hblk pL.1 hw8, ?_⟩
                          · exact congrArg Value.bool (eighth (by omega) (by omega))
                          · rw [← A.out, pdq_left h12 hl0 hp2 h87 (by rw [hx]; exact ⟨r1, r2⟩) (by rw [hx]; exact h4), hx]
                      · have h4z : ¬ ((mid : Int) - (a' : Int) < (b' : Int) - (mid : Int)) := by omega
                        have hih := ih blk off cap (mid + 1) b' (rd ltInt dk a' b' lim wb wp).lim d4 w7 (by omega) hH7 hblk7 (by omega) (by omega) (by omega) (Nat.lt_of_le_of_lt (Nat.le_trans rd_lim_le hlim) hlimit) r5
                        rw [r3, s3, hds] at hih
                        obtain ⟨pL, sL⟩ := S.pdq S.swo d4 (mid + 1) b' (rd ltInt dk a' b' lim wb wp).lim true true (by omega) (by omega) r5
                        go_wp2_with (go_at_call 189; refine hih.mono ?_; rintro e w8 ⟨rfl, hw8⟩)
                        go_roundg (mid - a')
                        case measure => omega
                        case rel =>
                          refine ⟨a', mid, (rd ltInt dk a' b' lim wb wp).lim, decide (b' - mid ≥ (b' - a') / 8), ap, pdq ltInt d4 (mid + 1) b' (rd ltInt dk a' b' lim wb wp).lim true true, rfl, rfl, rfl, ?_, rfl, by omega, by omega, Nat.le_refl _, by omega, Nat.le_trans rd_lim_le hlim, by rw [pL.1, r3, s3, hds], (r7 _ pL sL).1, hAt7.stepG hblk pL.1 hw8, ?_⟩
                          · exact congrArg Value.bool (eighth (by omega) (by omega))
                          · rw [← A.out, pdq_right h12 hl0 hp2 h87 (by rw [hx]; exact ⟨r1, r2⟩) (by rw [hx]; exact h4), hx]
                    · -- ████ 'mid := partitionEqualOrdered(..); a = mid; continue'
                      have h87' := h87
                      simp only [Bool.and_eq_true, decide_eq_true_eq, Bool.not_eq_true'] at h87'
                      obtain ⟨mid, d4, hx⟩ : ∃ mid d4, partitionEqual ltInt (rd ltInt dk a' b' lim wb wp).pi.1 a' b' (rd ltInt dk a' b' lim wb wp).pivot = (mid, d4) := ⟨(partitionEqual ltInt (rd ltInt dk a' b' lim wb wp).pi.1 a' b' (rd ltInt dk a' b' lim wb wp).pivot).1, (partitionEqual ltInt (rd ltInt dk a' b' lim wb wp).pi.1 a' b' (rd ltInt dk a' b' lim wb wp).pivot).2, rfl⟩
                      obtain ⟨r1, r2, r3, r4, _⟩ := round_eq S.swo S.peq h87'.1 hpv.1 hpv.2 (show b' ≤ (rd ltInt dk a' b' lim wb wp).pi.1.size by omega) B3 h87'.2 hx
                      have hc21 := C.peq blk off cap a' b' (rd ltInt dk a' b' lim wb wp).pivot (rd ltInt dk a' b' lim wb wp).pi.1 wc hH6 hpv.1 hpv.2 (by omega) (by omega)
                      rw [s3, hds, hx] at hc21
                      have X : Aside (partitionEqual ltInt (rd ltInt dk a' b' lim wb wp).pi.1 a' b' (rd ltInt dk a' b' lim wb wp).pivot = (mid, d4)) := hx
                      clear hx
                      go_wp2_with (go_at_call 205; refine hc21.mono ?_; rintro e w7 ⟨rfl, hw7⟩)
                      go_roundg (b' - mid)
                      case measure => omega
                      case rel =>
                        have hx := X.out
                        exact ⟨mid, b', (rd ltInt dk a' b' lim wb wp).lim, wb, wp, d4, rfl, rfl, rfl, rfl, rfl, r2, hb', Nat.le_refl _, by omega, Nat.le_trans rd_lim_le hlim, by rw [r3, s3, hds], r4, hAt6.step hblk r3 hw7, by rw [← A.out, pdq_eq h12 hl0 hp2 h87 (by rw [hx]; exact ⟨r1, r2⟩), hx]⟩
end Go.Proofs

namespace Go.Proofs
open Go.RowKit Go.Sort
set_option maxRecDepth 1000000 in
theorem su_insertionSort_int (blk off cap a b : Nat) (d : Array Int) (w : World) (hH : Holds (Value.int .u64) w blk off d) (hab : a ≤ b) (hb : b ≤ d.size) (hsz : d.size < 4611686018427387904) :
    Calls Try.prog 198 #[.slice (some ⟨blk, off, none⟩) d.size cap, .int .i64 a, .int .i64 b] w fun e w' =>
      e = .returned (.tuple #[]) ∧ ∃ n, w' = putRow (Value.int .u64) (Sort.ahead w n) blk off (Sort.insertionSort ltInt d a b) := by
  go_enter Try.func198, Try.ntmps198
  go_wp2
  go_loopw [6] (fun vi wr => ∃ (i n : Nat) (dk : Array Int), vi = .int .i64 i ∧ a < i ∧ i ≤ b + 1 ∧ dk.size = d.size ∧ wr = putRow (Value.int .u64) (Sort.ahead w n) blk off dk ∧
      insOuter ltInt a b i dk = insOuter ltInt a b (a + 1) d) (fun vi _ => b + 1 - (intOf vi).toNat)
  case atStart => exact ⟨a + 1, 0, d, by go_num, by omega, by omega, rfl, (putRow_self _ _ _ _ _ hH).symm, rfl⟩
  case round =>
    obtain ⟨i, n, dk, rfl, hai, hib, hsk, hwr, hO⟩ := hrel
    have HO : Hid (insOuter ltInt a b i dk = insOuter ltInt a b (a + 1) d) := hO
    clear hO
    go_wp2
    · -- i < b: the inner loop
      go_loopw [7] (fun vj wr2 => ∃ (j m : Nat) (dj : Array Int), vj = .int .i64 j ∧ a ≤ j ∧ j ≤ i ∧ dj.size = d.size ∧ wr2 = putRow (Value.int .u64) (Sort.ahead w m) blk off dj ∧
          insInner ltInt a j dj = insInner ltInt a i dk) (fun vj _ => (intOf vj).toNat)
      case atStart => exact ⟨i, n, dk, rfl, by omega, Nat.le_refl _, hsk, rfl, rfl⟩
      case round =>
        obtain ⟨j, m, dj, rfl, haj, hji, hsj, hw2, hI⟩ := hrel
        have hlt : i < b := by assumption
        -- the row's contents under a name of their own (the authors' find: with 'j < d.size' at hand the walk's simp turns 'dj[j]!' into 'dj[j]'); its two families: Derived/CellFam.lean serves every load and store from them
        obtain ⟨G, hG⟩ : ∃ G : Nat → Int, ∀ t, G t = dj[t]! := ⟨fun t => dj[t]!, fun _ => rfl⟩
        have hcw : ∀ t, t < d.size → wr.cell? ⟨blk, off + t, none⟩ = some (.int .u64 (G t)) := fun t ht => by
          rw [hw2, hG]; exact cell?_putRow _ _ _ _ d dj (holds_ahead _ _ _ _ _ _ hH) hsj t (by omega)
        have hfw : ∀ t, t < d.size → wr.frozen? ⟨blk, off + t, none⟩ = false := fun t ht => by
          rw [hw2, frozen?_putRow]; exact ((holds_ahead _ _ m _ _ _ hH) t ht).2
        have HW : Hid (wr = putRow (Value.int .u64) (Sort.ahead w m) blk off dj) := hw2
        have HG : Hid (∀ t, G t = dj[t]!) := hG
        have HI : Hid (insInner ltInt a j dj = insInner ltInt a i dk) := hI
        clear hw2 hG hI hH
        -- out of the inner loop: dj is what the inner loop makes of dk: the outer round's end
        have out : (j ≤ a ∨ ltInt dj[j]! dj[j - 1]! = false) → ∀ q, ∃ i' n' dk', Value.int .i64 ((i : Int) + 1) = .int .i64 (i' : Nat) ∧ a < i' ∧ i' ≤ b + 1 ∧ dk'.size = d.size ∧
            wr.drewN q = putRow (Value.int .u64) (Sort.ahead w n') blk off dk' ∧ insOuter ltInt a b i' dk' = insOuter ltInt a b (a + 1) d := fun hs q =>
          ⟨i + 1, m + q, dj, by go_num, by omega, by omega, hsj, by rw [HW.out]; exact putRow_drewN _ _ _ _ _ _ _,
            by rw [← HO.out, insOuter_go _ _ _ _ _ hlt, ← HI.out, insInner_stop _ _ _ _ hs]⟩
        have OUT : Hid _ := out
        clear out
        go_wp2
        by_cases hja : a < j
        · go_quiet (first | (go_at_call 204; refine Calls.quiet_of_same (su_cmp_Less_int _ _ _)))
          go_wp2
          · -- Less: the swap, j--
            have hl : ltInt (G j) (G (j - 1)) = true := by assumption
            go_region
            all_goals go_wp2
            go_roundw
            case rel =>
              refine ⟨j - 1, m + (nq + 1), swp dj j (j - 1), by congr 1; omega, by omega, by omega, by rw [size_swp]; exact hsj, ?_, ?_⟩
              · rw [HW.out, HG.out, HG.out]
                exact swap_worldA _ w m (nq + 1) blk off dj j (j - 1) (by omega) (by omega)
              · rw [← HI.out, insInner_go ltInt a j dj hja (by rw [← HG.out, ← HG.out]; exact hl)]
            case measure => simp [intOf]; omega
          · -- not Less
            have hl : ltInt (G j) (G (j - 1)) = false := by assumption
            go_roundw
            case rel => exact OUT.out (Or.inr (by rw [← HG.out, ← HG.out]; exact hl)) nq
            case measure => simp [intOf]; omega
        · go_quiet (first | (go_at_call 204; refine Calls.quiet_of_same (su_cmp_Less_int _ _ _)))
          go_wp2
          go_roundw
          case rel => exact OUT.out (Or.inl (by omega)) nq
          case measure => simp [intOf]; omega
    · -- the outer loop is at its end
      have hge : ¬ i < b := by assumption
      go_end0
      exact ⟨rfl, n, by unfold Sort.insertionSort; rw [← HO.out, insOuter_stop _ _ _ _ _ hge]⟩
end Go.Proofs

namespace Go.Proofs
open Go.RowKit Go.Sort
set_option maxHeartbeats 1600000 in
set_option maxRecDepth 1000000 in
theorem su_partialInsertionSort_int (blk off cap a b : Nat) (d : Array Int) (w : World) (hH : Holds (Value.int .u64) w blk off d) (hab : a < b) (hb : b ≤ d.size) (hsz : d.size < 4611686018427387904) :
    Calls Try.prog 203 #[.slice (some ⟨blk, off, none⟩) d.size cap, .int .i64 a, .int .i64 b] w fun e w' =>
      e = .returned (.bool (Sort.partialInsertionSort ltInt d a b).2) ∧ ∃ n, w' = putRow (Value.int .u64) (Sort.ahead w n) blk off (Sort.partialInsertionSort ltInt d a b).1 := by
  have HH : Hid (Holds (Value.int .u64) w blk off d) := hH
  have HST : Hid (w = putRow (Value.int .u64) (Sort.ahead w 0) blk off d) := (putRow_self _ _ _ _ _ hH).symm
  clear hH
  go_enter Try.func203, Try.ntmps203
  go_wp2
  go_loopw [7, 8] (fun vi vs wr => ∃ (i s n : Nat) (dk : Array Int), vi = .int .i64 i ∧ vs = .int .i64 s ∧ s ≤ 5 ∧ a < i ∧ i ≤ b ∧ dk.size = d.size ∧ wr = putRow (Value.int .u64) (Sort.ahead w n) blk off dk ∧
      partialIns ltInt a b (5 - s) i dk = partialIns ltInt a b 5 (a + 1) d) (fun _ vs _ => 5 - (intOf vs).toNat)
  case atStart => exact ⟨a + 1, 0, 0, d, by go_num, rfl, by omega, by omega, by omega, rfl, HST.out, rfl⟩
  case round =>
    obtain ⟨i, s, n, dk, rfl, rfl, hs5, hai, hib, hsk, hwr, hO⟩ := hrel
    have HO : Hid (partialIns ltInt a b (5 - s) i dk = partialIns ltInt a b 5 (a + 1) d) := hO
    clear hO
    go_wp2
    · -- s < 5: the scan
      have hs : s < 5 := by omega
      go_loopw [7] (fun vi wr2 => ∃ (k m : Nat), vi = .int .i64 k ∧ i ≤ k ∧ k ≤ b ∧ wr2 = putRow (Value.int .u64) (Sort.ahead w m) blk off dk ∧ scanSorted ltInt dk b k = scanSorted ltInt dk b i) (fun vi _ => b - (intOf vi).toNat)
      case atStart => exact ⟨i, n, rfl, Nat.le_refl _, hib, rfl, rfl⟩
      case round =>
        obtain ⟨k, m, rfl, hik, hkb, hw2, hS⟩ := hrel
        obtain ⟨G, hG⟩ : ∃ G : Nat → Int, ∀ t, G t = dk[t]! := ⟨fun t => dk[t]!, fun _ => rfl⟩
        have hcw : ∀ t, t < d.size → wr.cell? ⟨blk, off + t, none⟩ = some (.int .u64 (G t)) := fun t ht => by
          rw [hw2, hG]; exact cell?_putRow _ _ _ _ d dk (holds_ahead _ _ _ _ _ _ HH.out) hsk t (by omega)
        have hfw : ∀ t, t < d.size → wr.frozen? ⟨blk, off + t, none⟩ = false := fun t ht => by
          rw [hw2, frozen?_putRow]; exact ((holds_ahead _ _ m _ _ _ HH.out) t ht).2
        have HW : Hid (wr = putRow (Value.int .u64) (Sort.ahead w m) blk off dk) := hw2
        have HG : Hid (∀ t, G t = dk[t]!) := hG
        have HS : Hid (scanSorted ltInt dk b k = scanSorted ltInt dk b i) := hS
        clear hw2 hG hS
        go_wp2
        by_cases hkb' : k < b
        · go_quiet (first | (go_at_call 204; refine Calls.quiet_of_same (su_cmp_Less_int _ _ _)))
          go_wp2
          all_goals first
            | (at_end
               have hl : ltInt (G k) (G (k - 1)) = false := by
                 have h : (!ltInt (G k) (G (k - 1))) = true := by assumption
                 simpa using h
               go_roundw
               case rel => exact ⟨k + 1, m + nq, by go_num, by omega, by omega, by rw [HW.out]; exact putRow_drewN _ _ _ _ _ _ _, by rw [← HS.out, scanSorted_go ltInt dk b k hkb' (by rw [← HG.out, ← HG.out]; exact hl)]⟩
               case measure => simp [intOf]; omega)
            | (have hl : ltInt (G k) (G (k - 1)) = true := by
                 have h : (!ltInt (G k) (G (k - 1))) = false := by assumption
                 simpa using h
               have HK : Hid (scanSorted ltInt dk b i = k) := by
                 show scanSorted ltInt dk b i = k
                 rw [← HS.out, scanSorted_stop ltInt dk b k (Or.inr (by rw [← HG.out, ← HG.out]; exact hl))]
               first
                 | (at_ret
                    have hv : Sort.partialInsertionSort ltInt d a b = (dk, false) := by
                      unfold Sort.partialInsertionSort
                      rw [← HO.out, pi_short ltInt a b s i dk hs (by rw [HK.out]; omega) (by omega)]
                    rw [hv]
                    go_ret
                    exact ⟨rfl, m + nq, by rw [HW.out]; exact putRow_drewN _ _ _ _ _ _ _⟩)
                 | (at_region 11
                    have h50 : ¬ b - a < 50 := by omega
                    go_region
                    have hsw : ((wr.drewN (nq + 1)).setCell ⟨blk, off + k, none⟩ (.int .u64 (G (k - 1)))).setCell ⟨blk, off + (k - 1), none⟩ (.int .u64 (G k)) = putRow (Value.int .u64) (Sort.ahead w (m + (nq + 1))) blk off (swp dk k (k - 1)) := by
                      rw [HW.out, HG.out, HG.out]
                      exact swap_worldA _ w m (nq + 1) blk off dk k (k - 1) (by omega) (by omega)
                    have hs1 : (swp dk k (k - 1)).size = d.size := by rw [size_swp]; exact hsk
                    go_wp2
                    all_goals first
                      | (at_loop
                         -- i - a >= 2: the smaller one goes down
                         have hka : k - a ≥ 2 := by omega
                         go_loopw [9] (fun vj wr2 => ∃ (j m2 : Nat) (dj : Array Int), vj = .int .i64 j ∧ j ≤ k - 1 ∧ dj.size = d.size ∧ wr2 = putRow (Value.int .u64) (Sort.ahead w m2) blk off dj ∧
                             shiftDown ltInt j dj = shiftDown ltInt (k - 1) (swp dk k (k - 1))) (fun vj _ => (intOf vj).toNat)
                         case atStart => exact ⟨k - 1, _, (swp dk k (k - 1)), by congr 1; omega, Nat.le_refl _, hs1, rfl, rfl⟩
                         case round =>
                           obtain ⟨j, m2, dj, rfl, hjk, hsj, hw2, hDn⟩ := hrel
                           obtain ⟨G, hG⟩ : ∃ G : Nat → Int, ∀ t, G t = dj[t]! := ⟨fun t => dj[t]!, fun _ => rfl⟩
                           have hcw : ∀ t, t < d.size → wr.cell? ⟨blk, off + t, none⟩ = some (.int .u64 (G t)) := fun t ht => by
                             rw [hw2, hG]; exact cell?_putRow _ _ _ _ d dj (holds_ahead _ _ _ _ _ _ HH.out) hsj t (by omega)
                           have hfw : ∀ t, t < d.size → wr.frozen? ⟨blk, off + t, none⟩ = false := fun t ht => by
                             rw [hw2, frozen?_putRow]; exact ((holds_ahead _ _ m2 _ _ _ HH.out) t ht).2
                           have HW : Hid (wr = putRow (Value.int .u64) (Sort.ahead w m2) blk off dj) := hw2
                           have HG : Hid (∀ t, G t = dj[t]!) := hG
                           have HDn : Hid (shiftDown ltInt j dj = shiftDown ltInt (k - 1) (swp dk k (k - 1))) := hDn
                           clear hw2 hG hDn hsw
                           go_wp2
                           all_goals first
                             | (at_region 16
                                go_quiet (first | (go_at_call 204; refine Calls.quiet_of_same (su_cmp_Less_int _ _ _)))
                                go_wp2
                                all_goals first
                                  | (at_region 17
                                     have hl : ltInt (G j) (G (j - 1)) = true := by
                                       have h : (!ltInt (G j) (G (j - 1))) = false := by assumption
                                       simpa using h
                                     go_region
                                     all_goals go_wp2
                                     go_roundw
                                     case rel =>
                                       refine ⟨j - 1, m2 + (nq + 1), swp dj j (j - 1), by congr 1; omega, by omega, by rw [size_swp]; exact hsj, ?_, ?_⟩
                                       · rw [HW.out, HG.out, HG.out]
                                         exact swap_worldA _ w m2 (nq + 1) blk off dj j (j - 1) (by omega) (by omega)
                                       · rw [← HDn.out, shiftDown_go ltInt j dj (by omega) (by rw [← HG.out, ← HG.out]; exact hl)]
                                     case measure => simp [intOf]; omega)
                                  | (-- break
                                     have hl : ltInt (G j) (G (j - 1)) = false := by
                                       have h : (!ltInt (G j) (G (j - 1))) = true := by assumption
                                       simpa using h
                                     have HD : Hid (fixDown ltInt a k (swp dk k (k - 1)) = dj) := by
                                       show fixDown ltInt a k (swp dk k (k - 1)) = dj
                                       unfold fixDown; rw [if_pos hka, ← HDn.out, shiftDown_stop ltInt j dj (Or.inr (by rw [← HG.out, ← HG.out]; exact hl))]
                                     first
                                       | (at_end
                                          go_roundw
                                          case rel =>
                                            refine ⟨k, s + 1, _, dj, rfl, by go_num, by omega, by omega, by omega, hsj, (by first | rfl | exact HW.out | (rw [HW.out]; exact putRow_drewN _ _ _ _ _ _ _)), ?_⟩
                                            rw [← HO.out, pi_go ltInt a b s i k dk hs HK.out (by omega) (by omega), HD.out, show fixUp ltInt b k dj = dj from by unfold fixUp; rw [if_neg (by omega)]]
                                          case measure => simp [intOf]; omega)
                                       | (at_loop
                                          go_loopw [10] (fun vj wr2 => ∃ (j m3 : Nat) (du : Array Int), vj = .int .i64 j ∧ k + 1 ≤ j ∧ j ≤ b ∧ du.size = d.size ∧ wr2 = putRow (Value.int .u64) (Sort.ahead w m3) blk off du ∧
                                              shiftUp ltInt b j du = shiftUp ltInt b (k + 1) dj) (fun vj _ => b - (intOf vj).toNat)
                                          case atStart => exact ⟨k + 1, _, dj, by go_num, Nat.le_refl _, by omega, hsj, (by first | rfl | exact HW.out | (rw [HW.out]; exact putRow_drewN _ _ _ _ _ _ _)), rfl⟩
                                          case round =>
                                            obtain ⟨j, m3, du, rfl, hkj, hjb, hsu, hw3, hU⟩ := hrel
                                            obtain ⟨G, hG⟩ : ∃ G : Nat → Int, ∀ t, G t = du[t]! := ⟨fun t => du[t]!, fun _ => rfl⟩
                                            have hcw : ∀ t, t < d.size → wr.cell? ⟨blk, off + t, none⟩ = some (.int .u64 (G t)) := fun t ht => by
                                              rw [hw3, hG]; exact cell?_putRow _ _ _ _ d du (holds_ahead _ _ _ _ _ _ HH.out) hsu t (by omega)
                                            have hfw : ∀ t, t < d.size → wr.frozen? ⟨blk, off + t, none⟩ = false := fun t ht => by
                                              rw [hw3, frozen?_putRow]; exact ((holds_ahead _ _ m3 _ _ _ HH.out) t ht).2
                                            have HW : Hid (wr = putRow (Value.int .u64) (Sort.ahead w m3) blk off du) := hw3
                                            have HG : Hid (∀ t, G t = du[t]!) := hG
                                            have HU : Hid (shiftUp ltInt b j du = shiftUp ltInt b (k + 1) dj) := hU
                                            clear hw3 hG hU
                                            go_wp2
                                            all_goals first
                                              | (at_region 22
                                                 go_quiet (first | (go_at_call 204; refine Calls.quiet_of_same (su_cmp_Less_int _ _ _)))
                                                 go_wp2
                                                 all_goals first
                                                   | (at_region 23
                                                      have hl : ltInt (G j) (G (j - 1)) = true := by
                                                        have h : (!ltInt (G j) (G (j - 1))) = false := by assumption
                                                        simpa using h
                                                      go_region
                                                      all_goals go_wp2
                                                      go_roundw
                                                      case rel =>
                                                        refine ⟨j + 1, m3 + (nq + 1), swp du j (j - 1), by go_num, by omega, by omega, by rw [size_swp]; exact hsu, ?_, ?_⟩
                                                        · rw [HW.out, HG.out, HG.out]
                                                          exact swap_worldA _ w m3 (nq + 1) blk off du j (j - 1) (by omega) (by omega)
                                                        · rw [← HU.out, shiftUp_go ltInt b j du (by omega) (by rw [← HG.out, ← HG.out]; exact hl)]
                                                      case measure => simp [intOf]; omega)
                                                   | (at_end
                                                      have hl : ltInt (G j) (G (j - 1)) = false := by
                                                        have h : (!ltInt (G j) (G (j - 1))) = true := by assumption
                                                        simpa using h
                                                      go_roundw
                                                      case rel =>
                                                        refine ⟨k, s + 1, _, du, rfl, by go_num, by omega, by omega, by omega, hsu, (by first | rfl | exact HW.out | (rw [HW.out]; exact putRow_drewN _ _ _ _ _ _ _)), ?_⟩
                                                        rw [← HO.out, pi_go ltInt a b s i k dk hs HK.out (by omega) (by omega), HD.out, show fixUp ltInt b k dj = du from by unfold fixUp; rw [if_pos (by omega), ← HU.out, shiftUp_stop ltInt b j du (Or.inr (by rw [← HG.out, ← HG.out]; exact hl))]]
                                                      case measure => simp [intOf]; omega))
                                              | (at_end
                                                 go_roundw
                                                 case rel =>
                                                   refine ⟨k, s + 1, _, du, rfl, by go_num, by omega, by omega, by omega, hsu, (by first | rfl | exact HW.out | (rw [HW.out]; exact putRow_drewN _ _ _ _ _ _ _)), ?_⟩
                                                   rw [← HO.out, pi_go ltInt a b s i k dk hs HK.out (by omega) (by omega), HD.out, show fixUp ltInt b k dj = du from by unfold fixUp; rw [if_pos (by omega), ← HU.out, shiftUp_stop ltInt b j du (Or.inl (by omega))]]
                                                 case measure => simp [intOf]; omega))))
                             | (-- j < 1
                                have HD : Hid (fixDown ltInt a k (swp dk k (k - 1)) = dj) := by
                                  show fixDown ltInt a k (swp dk k (k - 1)) = dj
                                  unfold fixDown; rw [if_pos hka, ← HDn.out, shiftDown_stop ltInt j dj (Or.inl (by omega))]
                                first
                                  | (at_end
                                     go_roundw
                                     case rel =>
                                       refine ⟨k, s + 1, _, dj, rfl, by go_num, by omega, by omega, by omega, hsj, (by first | rfl | exact HW.out | (rw [HW.out]; exact putRow_drewN _ _ _ _ _ _ _)), ?_⟩
                                       rw [← HO.out, pi_go ltInt a b s i k dk hs HK.out (by omega) (by omega), HD.out, show fixUp ltInt b k dj = dj from by unfold fixUp; rw [if_neg (by omega)]]
                                     case measure => simp [intOf]; omega)
                                  | (at_loop
                                     go_loopw [10] (fun vj wr2 => ∃ (j m3 : Nat) (du : Array Int), vj = .int .i64 j ∧ k + 1 ≤ j ∧ j ≤ b ∧ du.size = d.size ∧ wr2 = putRow (Value.int .u64) (Sort.ahead w m3) blk off du ∧
                                         shiftUp ltInt b j du = shiftUp ltInt b (k + 1) dj) (fun vj _ => b - (intOf vj).toNat)
                                     case atStart => exact ⟨k + 1, _, dj, by go_num, Nat.le_refl _, by omega, hsj, (by first | rfl | exact HW.out | (rw [HW.out]; exact putRow_drewN _ _ _ _ _ _ _)), rfl⟩
                                     case round =>
                                       obtain ⟨j, m3, du, rfl, hkj, hjb, hsu, hw3, hU⟩ := hrel
                                       obtain ⟨G, hG⟩ : ∃ G : Nat → Int, ∀ t, G t = du[t]! := ⟨fun t => du[t]!, fun _ => rfl⟩
                                       have hcw : ∀ t, t < d.size → wr.cell? ⟨blk, off + t, none⟩ = some (.int .u64 (G t)) := fun t ht => by
                                         rw [hw3, hG]; exact cell?_putRow _ _ _ _ d du (holds_ahead _ _ _ _ _ _ HH.out) hsu t (by omega)
                                       have hfw : ∀ t, t < d.size → wr.frozen? ⟨blk, off + t, none⟩ = false := fun t ht => by
                                         rw [hw3, frozen?_putRow]; exact ((holds_ahead _ _ m3 _ _ _ HH.out) t ht).2
                                       have HW : Hid (wr = putRow (Value.int .u64) (Sort.ahead w m3) blk off du) := hw3
                                       have HG : Hid (∀ t, G t = du[t]!) := hG
                                       have HU : Hid (shiftUp ltInt b j du = shiftUp ltInt b (k + 1) dj) := hU
                                       clear hw3 hG hU
                                       go_wp2
                                       all_goals first
                                         | (at_region 22
                                            go_quiet (first | (go_at_call 204; refine Calls.quiet_of_same (su_cmp_Less_int _ _ _)))
                                            go_wp2
                                            all_goals first
                                              | (at_region 23
                                                 have hl : ltInt (G j) (G (j - 1)) = true := by
                                                   have h : (!ltInt (G j) (G (j - 1))) = false := by assumption
                                                   simpa using h
                                                 go_region
                                                 all_goals go_wp2
                                                 go_roundw
                                                 case rel =>
                                                   refine ⟨j + 1, m3 + (nq + 1), swp du j (j - 1), by go_num, by omega, by omega, by rw [size_swp]; exact hsu, ?_, ?_⟩
                                                   · rw [HW.out, HG.out, HG.out]
                                                     exact swap_worldA _ w m3 (nq + 1) blk off du j (j - 1) (by omega) (by omega)
                                                   · rw [← HU.out, shiftUp_go ltInt b j du (by omega) (by rw [← HG.out, ← HG.out]; exact hl)]
                                                 case measure => simp [intOf]; omega)
                                              | (at_end
                                                 have hl : ltInt (G j) (G (j - 1)) = false := by
                                                   have h : (!ltInt (G j) (G (j - 1))) = true := by assumption
                                                   simpa using h
                                                 go_roundw
                                                 case rel =>
                                                   refine ⟨k, s + 1, _, du, rfl, by go_num, by omega, by omega, by omega, hsu, (by first | rfl | exact HW.out | (rw [HW.out]; exact putRow_drewN _ _ _ _ _ _ _)), ?_⟩
                                                   rw [← HO.out, pi_go ltInt a b s i k dk hs HK.out (by omega) (by omega), HD.out, show fixUp ltInt b k dj = du from by unfold fixUp; rw [if_pos (by omega), ← HU.out, shiftUp_stop ltInt b j du (Or.inr (by rw [← HG.out, ← HG.out]; exact hl))]]
                                                 case measure => simp [intOf]; omega))
                                         | (at_end
                                            go_roundw
                                            case rel =>
                                              refine ⟨k, s + 1, _, du, rfl, by go_num, by omega, by omega, by omega, hsu, (by first | rfl | exact HW.out | (rw [HW.out]; exact putRow_drewN _ _ _ _ _ _ _)), ?_⟩
                                              rw [← HO.out, pi_go ltInt a b s i k dk hs HK.out (by omega) (by omega), HD.out, show fixUp ltInt b k dj = du from by unfold fixUp; rw [if_pos (by omega), ← HU.out, shiftUp_stop ltInt b j du (Or.inl (by omega))]]
                                            case measure => simp [intOf]; omega))))
                      | (-- i - a < 2
                         have HD : Hid (fixDown ltInt a k (swp dk k (k - 1)) = (swp dk k (k - 1))) := by
                           show fixDown ltInt a k (swp dk k (k - 1)) = (swp dk k (k - 1))
                           unfold fixDown; rw [if_neg (by omega)]
                         first
                           | (at_end
                              go_roundw
                              case rel =>
                                refine ⟨k, s + 1, _, (swp dk k (k - 1)), rfl, by go_num, by omega, by omega, by omega, hs1, (by first | rfl | exact HW.out | (rw [HW.out]; exact putRow_drewN _ _ _ _ _ _ _)), ?_⟩
                                rw [← HO.out, pi_go ltInt a b s i k dk hs HK.out (by omega) (by omega), HD.out, show fixUp ltInt b k (swp dk k (k - 1)) = (swp dk k (k - 1)) from by unfold fixUp; rw [if_neg (by omega)]]
                              case measure => simp [intOf]; omega)
                           | (at_loop
                              go_loopw [10] (fun vj wr2 => ∃ (j m3 : Nat) (du : Array Int), vj = .int .i64 j ∧ k + 1 ≤ j ∧ j ≤ b ∧ du.size = d.size ∧ wr2 = putRow (Value.int .u64) (Sort.ahead w m3) blk off du ∧
                                  shiftUp ltInt b j du = shiftUp ltInt b (k + 1) (swp dk k (k - 1))) (fun vj _ => b - (intOf vj).toNat)
                              case atStart => exact ⟨k + 1, _, (swp dk k (k - 1)), by go_num, Nat.le_refl _, by omega, hs1, (by first | rfl | exact HW.out | (rw [HW.out]; exact putRow_drewN _ _ _ _ _ _ _)), rfl⟩
                              case round =>
                                obtain ⟨j, m3, du, rfl, hkj, hjb, hsu, hw3, hU⟩ := hrel
                                obtain ⟨G, hG⟩ : ∃ G : Nat → Int, ∀ t, G t = du[t]! := ⟨fun t => du[t]!, fun _ => rfl⟩
                                have hcw : ∀ t, t < d.size → wr.cell? ⟨blk, off + t, none⟩ = some (.int .u64 (G t)) := fun t ht => by
                                  rw [hw3, hG]; exact cell?_putRow _ _ _ _ d du (holds_ahead _ _ _ _ _ _ HH.out) hsu t (by omega)
                                have hfw : ∀ t, t < d.size → wr.frozen? ⟨blk, off + t, none⟩ = false := fun t ht => by
                                  rw [hw3, frozen?_putRow]; exact ((holds_ahead _ _ m3 _ _ _ HH.out) t ht).2
                                have HW : Hid (wr = putRow (Value.int .u64) (Sort.ahead w m3) blk off du) := hw3
                                have HG : Hid (∀ t, G t = du[t]!) := hG
                                have HU : Hid (shiftUp ltInt b j du = shiftUp ltInt b (k + 1) (swp dk k (k - 1))) := hU
                                clear hw3 hG hU
                                go_wp2
                                all_goals first
                                  | (at_region 22
                                     go_quiet (first | (go_at_call 204; refine Calls.quiet_of_same (su_cmp_Less_int _ _ _)))
                                     go_wp2
                                     all_goals first
                                       | (at_region 23
                                          have hl : ltInt (G j) (G (j - 1)) = true := by
                                            have h : (!ltInt (G j) (G (j - 1))) = false := by assumption
                                            simpa using h
                                          go_region
                                          all_goals go_wp2
                                          go_roundw
                                          case rel =>
                                            refine ⟨j + 1, m3 + (nq + 1), swp du j (j - 1), by go_num, by omega, by omega, by rw [size_swp]; exact hsu, ?_, ?_⟩
                                            · rw [HW.out, HG.out, HG.out]
                                              exact swap_worldA _ w m3 (nq + 1) blk off du j (j - 1) (by omega) (by omega)
                                            · rw [← HU.out, shiftUp_go ltInt b j du (by omega) (by rw [← HG.out, ← HG.out]; exact hl)]
                                          case measure => simp [intOf]; omega)
                                       | (at_end
                                          have hl : ltInt (G j) (G (j - 1)) = false := by
                                            have h : (!ltInt (G j) (G (j - 1))) = true := by assumption
                                            simpa using h
                                          go_roundw
                                          case rel =>
                                            refine ⟨k, s + 1, _, du, rfl, by go_num, by omega, by omega, by omega, hsu, (by first | rfl | exact HW.out | (rw [HW.out]; exact putRow_drewN _ _ _ _ _ _ _)), ?_⟩
                                            rw [← HO.out, pi_go ltInt a b s i k dk hs HK.out (by omega) (by omega), HD.out, show fixUp ltInt b k (swp dk k (k - 1)) = du from by unfold fixUp; rw [if_pos (by omega), ← HU.out, shiftUp_stop ltInt b j du (Or.inr (by rw [← HG.out, ← HG.out]; exact hl))]]
                                          case measure => simp [intOf]; omega))
                                  | (at_end
                                     go_roundw
                                     case rel =>
                                       refine ⟨k, s + 1, _, du, rfl, by go_num, by omega, by omega, by omega, hsu, (by first | rfl | exact HW.out | (rw [HW.out]; exact putRow_drewN _ _ _ _ _ _ _)), ?_⟩
                                       rw [← HO.out, pi_go ltInt a b s i k dk hs HK.out (by omega) (by omega), HD.out, show fixUp ltInt b k (swp dk k (k - 1)) = du from by unfold fixUp; rw [if_pos (by omega), ← HU.out, shiftUp_stop ltInt b j du (Or.inl (by omega))]]
                                     case measure => simp [intOf]; omega)))))
        · -- the scan has come to b: true
          go_quiet (first | (go_at_call 204; refine Calls.quiet_of_same (su_cmp_Less_int _ _ _)))
          go_wp2
          obtain rfl : k = b := by omega
          have hv : Sort.partialInsertionSort ltInt d a k = (dk, true) := by
            unfold Sort.partialInsertionSort
            rw [← HO.out, pi_true ltInt a k s i dk hs (by rw [← HS.out, scanSorted_stop ltInt dk k k (Or.inl (by omega))])]
          rw [hv]
          go_ret
          exact ⟨rfl, m + nq, by rw [HW.out]; exact putRow_drewN _ _ _ _ _ _ _⟩
    · -- five steps are done: false
      obtain rfl : s = 5 := by omega
      have hv : Sort.partialInsertionSort ltInt d a b = (dk, false) := by
        unfold Sort.partialInsertionSort
        rw [← HO.out, pi_end]
      rw [hv]
      go_ret
      exact ⟨rfl, n, rfl⟩
end Go.Proofs

namespace Go.Proofs
open Go.RowKit Go.Sort
set_option maxHeartbeats 6400000 in
set_option maxRecDepth 1000000 in
theorem su_partitionEqual_int (blk off cap a b pivot : Nat) (d : Array Int) (w : World) (hH : Holds (Value.int .u64) w blk off d) (hap : a ≤ pivot) (hpb : pivot < b) (hb : b ≤ d.size) (hsz : d.size < 4611686018427387904) :
    Calls Try.prog 205 #[.slice (some ⟨blk, off, none⟩) d.size cap, .int .i64 a, .int .i64 b, .int .i64 pivot] w fun e w' =>
      e = .returned (.int .i64 (Sort.partitionEqual Sort.ltInt d a b pivot).1) ∧ ∃ n, w' = (putRow (Value.int .u64) w blk off (Sort.partitionEqual Sort.ltInt d a b pivot).2).drewN n := by
  have hla : a < d.size := by omega
  have hlp : pivot < d.size := by omega
  -- THE ROW's CONTENTS UNDER A NAME OF THEIR OWN: with 'pivot < d.size' at hand the walk's simp turns 'd[pivot]!' into 'd[pivot]', and a fact spelt the other way no longer strikes
  obtain ⟨G, hG⟩ : ∃ G : Nat → Int, ∀ j, G j = d[j]! := ⟨fun j => d[j]!, fun _ => rfl⟩
  have ca : w.cell? ⟨blk, off + a, none⟩ = some (.int .u64 (G a)) := by rw [hG]; exact (hH a hla).1
  have fa := (hH a hla).2
  have cp : w.cell? ⟨blk, off + pivot, none⟩ = some (.int .u64 (G pivot)) := by rw [hG]; exact (hH pivot hlp).1
  have fp := (hH pivot hlp).2
  obtain ⟨v', hy'⟩ := cell?_setCell_some (w := w) (p := ⟨blk, off + a, none⟩) (x := .int .u64 (G pivot)) (q := ⟨blk, off + pivot, none⟩) cp
  have AG : Hid (∀ j, G j = d[j]!) := hG
  have AH : Hid (Holds (Value.int .u64) w blk off d) := hH
  clear hG hH
  go_enter Try.func205, Try.ntmps205
  go_wp2
  go_region
  go_wp2
  -- THE 'for {'
  go_loopw [9, 10] (fun vi vj wr => ∃ (i j n : Nat) (dk : Array Int), vi = .int .i64 i ∧ vj = .int .i64 j ∧ a < i ∧ i ≤ j + 1 ∧ j < b ∧ dk.size = d.size ∧ wr = (putRow (Value.int .u64) w blk off dk).drewN n ∧
      Sort.partEqLoop Sort.ltInt a i j dk = Sort.partEqLoop Sort.ltInt a (a + 1) (b - 1) (Sort.swp d a pivot))
    (fun vi vj _ => (intOf vj).toNat + 1 - (intOf vi).toNat)
  case atStart =>
    refine ⟨a + 1, b - 1, 1, Sort.swp d a pivot, by go_num, by go_num, by omega, by omega, by omega, size_swp _ _ _, ?_, rfl⟩
    have e := swap_worldC (Value.int .u64) w blk off d 0 a pivot hla hlp
    rw [putRow_self _ w blk off d AH.out] at e
    rw [AG.out a, AG.out pivot]
    exact e
  case round =>
    obtain ⟨i, j, n, dk, rfl, rfl, hai, hij, hjb, hs, hw, heq⟩ := hrel
    clear ca fa cp fp hy' v' AG
    rename World => W1
    have hHk : Holds (Value.int .u64) W1 blk off dk := by
      rw [hw]
      exact holds_putRow (Value.int .u64) w blk off d dk AH.out hs
    obtain ⟨Gk, hG⟩ : ∃ Gk : Nat → Int, ∀ t, Gk t = dk[t]! := ⟨fun t => dk[t]!, fun _ => rfl⟩
    have hc : ∀ t, t < d.size → W1.cell? ⟨blk, off + t, none⟩ = some (.int .u64 (Gk t)) := fun t ht => by rw [hG]; exact (hHk t (by omega)).1
    have hf : ∀ t, t < d.size → W1.frozen? ⟨blk, off + t, none⟩ = false := fun t ht => (hHk t (by omega)).2
    have AG : Hid (∀ t, Gk t = dk[t]!) := hG
    have AW : Hid (W1 = (putRow (Value.int .u64) w blk off dk).drewN n) := hw
    have AE : Hid (Sort.partEqLoop Sort.ltInt a i j dk = Sort.partEqLoop Sort.ltInt a (a + 1) (b - 1) (Sort.swp d a pivot)) := heq
    clear hG hw heq hHk
    go_wp2
    -- THE UPWARD SCAN
    go_loopw [9] (fun vi w1 => ∃ (i' n1 : Nat), vi = .int .i64 i' ∧ i ≤ i' ∧ i' ≤ j + 1 ∧ w1 = W1.drewN n1 ∧
        Hid (Sort.scanUp (fun x => !Sort.ltInt dk[a]! x) dk j i' = Sort.scanUp (fun x => !Sort.ltInt dk[a]! x) dk j i))
      (fun vi _ => j + 1 - (intOf vi).toNat)
    case atStart => exact ⟨i, 0, rfl, Nat.le_refl _, hij, rfl, rfl⟩
    case round =>
      obtain ⟨i', n1, rfl, hii, hij', hw1, hsc⟩ := hrel
      -- THE ROUND's WORLD STAYS A VARIABLE (as 'W1.drewN n1' the walk's simp would merge the draws, and the quiet law's end would not fit)
      have hcw : ∀ t, t < d.size → wr.cell? ⟨blk, off + t, none⟩ = some (.int .u64 (Gk t)) := fun t ht => by rw [hw1]; exact hc t ht
      have HW1 : Hid (wr = W1.drewN n1) := hw1
      clear hw1
      by_cases hle : i' ≤ j
      · go_wp2_with fail
        go_big_quiet (first | (go_at_call 204; refine Calls.quiet_of_same (su_cmp_Less_int _ _ _)))
        go_wp2
        · -- it goes on: i++
          have ht : (!Sort.ltInt (Gk a) (Gk i')) = true := by assumption
          go_roundw
          case rel => exact ⟨i' + 1, n1 + nq, by go_num, by omega, by omega, by rw [HW1.out, World.drewN_drewN], (scanUp_go (fun x => !Sort.ltInt dk[a]! x) dk j i' hle (by rw [← AG.out a, ← AG.out i']; exact ht)).symm.trans hsc.out⟩
          case measure => simp [intOf]; omega
        · -- it stops: the test has failed
          have ht : (!Sort.ltInt (Gk a) (Gk i')) = false := by assumption
          have hi2 : Hid (i' = Sort.scanUp (fun x => !Sort.ltInt dk[a]! x) dk j i) := (scanUp_end (fun x => !Sort.ltInt dk[a]! x) dk j i' (Or.inr (by rw [← AG.out a, ← AG.out i']; exact ht))).symm.trans hsc.out
          clear ht
          -- THE DOWNWARD SCAN
          have hw2 : wr.drewN nq = W1.drewN (n1 + nq) := by rw [HW1.out, World.drewN_drewN]
          clear hcw HW1 hsc
          go_loopw [10] (fun vj w2 => ∃ (j' n2 : Nat), vj = .int .i64 j' ∧ j' ≤ j ∧ i' ≤ j' + 1 ∧ w2 = W1.drewN n2 ∧
              Hid (Sort.scanDown (fun x => Sort.ltInt dk[a]! x) dk i' j' = Sort.scanDown (fun x => Sort.ltInt dk[a]! x) dk i' j))
            (fun vj _ => (intOf vj).toNat)
          case atStart => exact ⟨j, n1 + nq, rfl, Nat.le_refl _, hij', hw2, rfl⟩
          case round =>
            clear hw2
            obtain ⟨j', n2, rfl, hjj, hij2, hw2, hsd⟩ := hrel
            have hcw : ∀ t, t < d.size → wr.cell? ⟨blk, off + t, none⟩ = some (.int .u64 (Gk t)) := fun t ht => by rw [hw2]; exact hc t ht
            have HW2 : Hid (wr = W1.drewN n2) := hw2
            clear hw2
            by_cases hle2 : i' ≤ j'
            · go_wp2_with fail
              go_big_quiet (first | (go_at_call 204; refine Calls.quiet_of_same (su_cmp_Less_int _ _ _)))
              go_wp2
              · -- it goes on: j--
                have ht : Sort.ltInt (Gk a) (Gk j') = true := by assumption
                go_roundw
                case rel => exact ⟨j' - 1, n2 + nq, by go_num, by omega, by omega, by rw [HW2.out, World.drewN_drewN], (scanDown_go (fun x => Sort.ltInt dk[a]! x) dk i' j' hle2 (by omega) (by rw [← AG.out a, ← AG.out j']; exact ht)).symm.trans hsd.out⟩
                case measure => simp [intOf]; omega
              · -- it stops: the test has failed
                have ht : Sort.ltInt (Gk a) (Gk j') = false := by assumption
                have hj2 : Hid (j' = Sort.scanDown (fun x => Sort.ltInt dk[a]! x) dk i' j) := (scanDown_end (fun x => Sort.ltInt dk[a]! x) dk i' j' (Or.inr (by rw [← AG.out a, ← AG.out j']; exact ht))).symm.trans hsd.out
                clear hcw hsd ht
                -- BEHIND BOTH SCANS
                have hw3 : wr.drewN nq = W1.drewN (n2 + nq) := by rw [HW2.out, World.drewN_drewN]
                generalize wr.drewN nq = W3 at hw3 ⊢
                have hc3 : ∀ t, t < d.size → W3.cell? ⟨blk, off + t, none⟩ = some (.int .u64 (Gk t)) := fun t ht => by rw [hw3]; exact hc t ht
                have hf3 : ∀ t, t < d.size → W3.frozen? ⟨blk, off + t, none⟩ = false := fun t ht => by rw [hw3]; exact hf t ht
                have HW3 : Hid (W3 = W1.drewN (n2 + nq)) := hw3
                clear hw3
                -- the exchange; i++; j--
                obtain ⟨v3, hy3⟩ := cell?_setCell_some (w := W3) (p := ⟨blk, off + i', none⟩) (x := .int .u64 (Gk j')) (q := ⟨blk, off + j', none⟩) (hc3 j' (by omega))
                have hlt3 := scans_lt Sort.ltInt a i j dk (by omega) hi2.out hj2.out hle2
                go_wp2
                go_region
                all_goals go_wp2
                all_goals go_roundw
                case rel =>
                  refine ⟨i' + 1, j' - 1, n + (n2 + nq) + 1, Sort.swp dk i' j', by go_num, by go_num, by omega, by omega, by omega, by rw [size_swp]; exact hs, ?_, ?_⟩
                  · rw [HW3.out, AW.out, World.drewN_drewN, AG.out i', AG.out j']
                    exact swap_worldC (Value.int .u64) w blk off dk _ i' j' (by omega) (by omega)
                  · rw [← AE.out]; exact (partEq_go Sort.ltInt a i j dk hi2.out hj2.out (by omega)).symm
                case measure => simp [intOf]; omega
            · go_wp2_with fail
              go_big_quiet (first | (go_at_call 204; refine Calls.quiet_of_same (su_cmp_Less_int _ _ _)))
              -- it stops: i > j
              have hj2 : Hid (j' = Sort.scanDown (fun x => Sort.ltInt dk[a]! x) dk i' j) := (scanDown_end (fun x => Sort.ltInt dk[a]! x) dk i' j' (Or.inl hle2)).symm.trans hsd.out
              clear hcw hsd
              -- BEHIND BOTH SCANS
              have hw3 : wr.drewN nq = W1.drewN (n2 + nq) := by rw [HW2.out, World.drewN_drewN]
              generalize wr.drewN nq = W3 at hw3 ⊢
              have hc3 : ∀ t, t < d.size → W3.cell? ⟨blk, off + t, none⟩ = some (.int .u64 (Gk t)) := fun t ht => by rw [hw3]; exact hc t ht
              have hf3 : ∀ t, t < d.size → W3.frozen? ⟨blk, off + t, none⟩ = false := fun t ht => by rw [hw3]; exact hf t ht
              have HW3 : Hid (W3 = W1.drewN (n2 + nq)) := hw3
              clear hw3
              -- i > j: break; return i
              go_wp2
              go_ret
              have e := partEq_break Sort.ltInt a i j dk hi2.out hj2.out (by omega)
              refine ⟨?_, n + (n2 + nq), ?_⟩
              · unfold Sort.partitionEqual; rw [← AE.out, e]; rfl
              · unfold Sort.partitionEqual; rw [← AE.out, e, HW3.out, AW.out, World.drewN_drewN]
      · go_wp2_with fail
        go_big_quiet (first | (go_at_call 204; refine Calls.quiet_of_same (su_cmp_Less_int _ _ _)))
        go_wp2
        -- it stops: i > j
        have hi2 : Hid (i' = Sort.scanUp (fun x => !Sort.ltInt dk[a]! x) dk j i) := (scanUp_end (fun x => !Sort.ltInt dk[a]! x) dk j i' (Or.inl hle)).symm.trans hsc.out
        -- THE DOWNWARD SCAN
        have hw2 : wr.drewN nq = W1.drewN (n1 + nq) := by rw [HW1.out, World.drewN_drewN]
        clear hcw HW1 hsc
        go_loopw [10] (fun vj w2 => ∃ (j' n2 : Nat), vj = .int .i64 j' ∧ j' ≤ j ∧ i' ≤ j' + 1 ∧ w2 = W1.drewN n2 ∧
            Hid (Sort.scanDown (fun x => Sort.ltInt dk[a]! x) dk i' j' = Sort.scanDown (fun x => Sort.ltInt dk[a]! x) dk i' j))
          (fun vj _ => (intOf vj).toNat)
        case atStart => exact ⟨j, n1 + nq, rfl, Nat.le_refl _, hij', hw2, rfl⟩
        case round =>
          clear hw2
          obtain ⟨j', n2, rfl, hjj, hij2, hw2, hsd⟩ := hrel
          have hcw : ∀ t, t < d.size → wr.cell? ⟨blk, off + t, none⟩ = some (.int .u64 (Gk t)) := fun t ht => by rw [hw2]; exact hc t ht
          have HW2 : Hid (wr = W1.drewN n2) := hw2
          clear hw2
          by_cases hle2 : i' ≤ j'
          · exfalso; omega      -- the upward scan has run past j, and j' ≤ j
          · go_wp2_with fail
            go_big_quiet (first | (go_at_call 204; refine Calls.quiet_of_same (su_cmp_Less_int _ _ _)))
            -- it stops: i > j
            have hj2 : Hid (j' = Sort.scanDown (fun x => Sort.ltInt dk[a]! x) dk i' j) := (scanDown_end (fun x => Sort.ltInt dk[a]! x) dk i' j' (Or.inl hle2)).symm.trans hsd.out
            clear hcw hsd
            -- BEHIND BOTH SCANS
            have hw3 : wr.drewN nq = W1.drewN (n2 + nq) := by rw [HW2.out, World.drewN_drewN]
            generalize wr.drewN nq = W3 at hw3 ⊢
            have hc3 : ∀ t, t < d.size → W3.cell? ⟨blk, off + t, none⟩ = some (.int .u64 (Gk t)) := fun t ht => by rw [hw3]; exact hc t ht
            have hf3 : ∀ t, t < d.size → W3.frozen? ⟨blk, off + t, none⟩ = false := fun t ht => by rw [hw3]; exact hf t ht
            have HW3 : Hid (W3 = W1.drewN (n2 + nq)) := hw3
            clear hw3
            -- i > j: break; return i
            go_wp2
            go_ret
            have e := partEq_break Sort.ltInt a i j dk hi2.out hj2.out (by omega)
            refine ⟨?_, n + (n2 + nq), ?_⟩
            · unfold Sort.partitionEqual; rw [← AE.out, e]; rfl
            · unfold Sort.partitionEqual; rw [← AE.out, e, HW3.out, AW.out, World.drewN_drewN]

theorem su_partitionEqualOrdered_int (blk off cap a b pivot : Nat) (d : Array Int) (w : World) (hH : Holds (Value.int .u64) w blk off d) (hap : a ≤ pivot) (hpb : pivot < b) (hb : b ≤ d.size) (hsz : d.size < 4611686018427387904) :
    Calls Try.prog 205 #[.slice (some ⟨blk, off, none⟩) d.size cap, .int .i64 a, .int .i64 b, .int .i64 pivot] w fun e w' =>
      e = .returned (.int .i64 (Sort.partitionEqual Sort.ltInt d a b pivot).1) ∧ ∃ n, w' = putRow (Value.int .u64) (Sort.ahead w n) blk off (Sort.partitionEqual Sort.ltInt d a b pivot).2 :=
  (su_partitionEqual_int blk off cap a b pivot d w hH hap hpb hb hsz).mono fun _ _ ⟨he, n, hw⟩ => ⟨he, n, hw⟩
end Go.Proofs

namespace Go.Proofs
open Go.RowKit Go.Sort
set_option maxHeartbeats 12800000 in
set_option maxRecDepth 1000000 in
theorem su_partition_int (blk off cap a b pivot : Nat) (d : Array Int) (w : World) (hH : Holds (Value.int .u64) w blk off d) (hap : a ≤ pivot) (hpb : pivot < b) (hb : b ≤ d.size) (hsz : d.size < 4611686018427387904) :
    Calls Try.prog 206 #[.slice (some ⟨blk, off, none⟩) d.size cap, .int .i64 a, .int .i64 b, .int .i64 pivot] w fun e w' =>
      e = .returned (.tuple #[.int .i64 (Sort.partition Sort.ltInt d a b pivot).1, .bool (Sort.partition Sort.ltInt d a b pivot).2.1]) ∧ ∃ n, w' = (putRow (Value.int .u64) w blk off (Sort.partition Sort.ltInt d a b pivot).2.2).drewN n := by
  have hla : a < d.size := by omega
  have hlp : pivot < d.size := by omega
  obtain ⟨G, hG⟩ : ∃ G : Nat → Int, ∀ j, G j = d[j]! := ⟨fun j => d[j]!, fun _ => rfl⟩
  have ca : w.cell? ⟨blk, off + a, none⟩ = some (.int .u64 (G a)) := by rw [hG]; exact (hH a hla).1
  have fa := (hH a hla).2
  have cp : w.cell? ⟨blk, off + pivot, none⟩ = some (.int .u64 (G pivot)) := by rw [hG]; exact (hH pivot hlp).1
  have fp := (hH pivot hlp).2
  obtain ⟨v', hy'⟩ := cell?_setCell_some (w := w) (p := ⟨blk, off + a, none⟩) (x := .int .u64 (G pivot)) (q := ⟨blk, off + pivot, none⟩) cp
  have hw : ((w.setCell ⟨blk, off + a, none⟩ (.int .u64 (G pivot))).setCell ⟨blk, off + pivot, none⟩ (.int .u64 (G a))).drew = (putRow (Value.int .u64) w blk off (Sort.swp d a pivot)).drewN 1 := by
    have e := swap_worldC (Value.int .u64) w blk off d 0 a pivot hla hlp
    rw [putRow_self _ w blk off d hH] at e
    rw [hG a, hG pivot]
    exact e
  have AH : Hid (Holds (Value.int .u64) w blk off d) := hH
  have HW0 := Hid.mk' hw
  clear hG hH hw
  go_enter Try.func206, Try.ntmps206
  go_wp2
  go_region
  go_wp2
  -- THE FIRST ROUND's STATE UNDER THE NAMES THAT EVERY ROUND USES
  clear ca fa cp fp hy' v'
  have hw := HW0.out
  clear HW0
  generalize ((w.setCell ⟨blk, off + a, none⟩ (.int .u64 (G pivot))).setCell ⟨blk, off + pivot, none⟩ (.int .u64 (G a))).drew = W1 at hw ⊢
  obtain ⟨dk, hdk⟩ : ∃ dk, dk = Sort.swp d a pivot := ⟨_, rfl⟩
  obtain ⟨n, hn⟩ : ∃ n : Nat, n = 1 := ⟨_, rfl⟩
  rw [← hdk, ← hn] at hw
  clear hn
  have hs : dk.size = d.size := by rw [hdk, size_swp]
  have e1 : ((a : Int) + 1) = ((a + 1 : Nat) : Int) := by omega
  have e2 : ((b : Int) - 1) = ((b - 1 : Nat) : Int) := by omega
  rw [e1, e2]
  clear e1 e2
  obtain ⟨i, hi⟩ : ∃ i, i = a + 1 := ⟨_, rfl⟩
  obtain ⟨j, hj⟩ : ∃ j, j = b - 1 := ⟨_, rfl⟩
  rw [← hi, ← hj]
  have hai : a < i := by omega
  have hij : i ≤ j + 1 := by omega
  have hjb : j < b := by omega
  -- (the walk takes every hypothesis for a rule: 'j = b - 1' would write j out again, and the test's guard 'i' ≤ j' would not be known)
  have HI := Hid.mk' hi
  have HJ := Hid.mk' hj
  have HDK := Hid.mk' hdk
  clear hi hj hdk
  have hHk : Holds (Value.int .u64) W1 blk off dk := by
    rw [hw]
    exact holds_putRow (Value.int .u64) w blk off d dk AH.out hs
  obtain ⟨Gk, hG⟩ : ∃ Gk : Nat → Int, ∀ t, Gk t = dk[t]! := ⟨fun t => dk[t]!, fun _ => rfl⟩
  have hc : ∀ t, t < d.size → W1.cell? ⟨blk, off + t, none⟩ = some (.int .u64 (Gk t)) := fun t ht => by rw [hG]; exact (hHk t (by omega)).1
  have hf : ∀ t, t < d.size → W1.frozen? ⟨blk, off + t, none⟩ = false := fun t ht => (hHk t (by omega)).2
  have AG : Hid (∀ t, Gk t = dk[t]!) := hG
  have AW : Hid (W1 = (putRow (Value.int .u64) w blk off dk).drewN n) := hw
  clear hG hw hHk
  -- THE UPWARD SCAN
  go_loopw [10] (fun vi w1 => ∃ (i' n1 : Nat), vi = .int .i64 i' ∧ i ≤ i' ∧ i' ≤ j + 1 ∧ w1 = W1.drewN n1 ∧
      Hid (Sort.scanUp (fun x => Sort.ltInt x dk[a]!) dk j i' = Sort.scanUp (fun x => Sort.ltInt x dk[a]!) dk j i))
    (fun vi _ => j + 1 - (intOf vi).toNat)
  case atStart => exact ⟨i, 0, rfl, Nat.le_refl _, hij, rfl, rfl⟩
  case round =>
    obtain ⟨i', n1, rfl, hii, hij', hw1, hsc⟩ := hrel
    have hcw : ∀ t, t < d.size → wr.cell? ⟨blk, off + t, none⟩ = some (.int .u64 (Gk t)) := fun t ht => by rw [hw1]; exact hc t ht
    have HW1 : Hid (wr = W1.drewN n1) := hw1
    clear hw1
    by_cases hle : i' ≤ j
    · go_wp2_with fail
      go_big_quiet (first | (go_at_call 204; refine Calls.quiet_of_same (su_cmp_Less_int _ _ _)))
      go_wp2
      · -- it goes on: i++
        have ht : Sort.ltInt (Gk i') (Gk a) = true := by assumption
        go_roundw
        case rel => exact ⟨i' + 1, n1 + nq, by go_num, by omega, by omega, by rw [HW1.out, World.drewN_drewN], (scanUp_go (fun x => Sort.ltInt x dk[a]!) dk j i' hle (by rw [← AG.out a, ← AG.out i']; exact ht)).symm.trans hsc.out⟩
        case measure => simp [intOf]; omega
      · -- it stops: the test has failed
        have ht : Sort.ltInt (Gk i') (Gk a) = false := by assumption
        have hi2 : Hid (i' = Sort.scanUp (fun x => Sort.ltInt x dk[a]!) dk j i) := (scanUp_end (fun x => Sort.ltInt x dk[a]!) dk j i' (Or.inr (by rw [← AG.out a, ← AG.out i']; exact ht))).symm.trans hsc.out
        clear ht
        -- THE DOWNWARD SCAN
        have hw2 : wr.drewN nq = W1.drewN (n1 + nq) := by rw [HW1.out, World.drewN_drewN]
        clear hcw HW1 hsc
        go_loopw [11] (fun vj w2 => ∃ (j' n2 : Nat), vj = .int .i64 j' ∧ j' ≤ j ∧ i' ≤ j' + 1 ∧ w2 = W1.drewN n2 ∧
            Hid (Sort.scanDown (fun x => !Sort.ltInt x dk[a]!) dk i' j' = Sort.scanDown (fun x => !Sort.ltInt x dk[a]!) dk i' j))
          (fun vj _ => (intOf vj).toNat)
        case atStart => exact ⟨j, n1 + nq, rfl, Nat.le_refl _, hij', hw2, rfl⟩
        case round =>
          clear hw2
          obtain ⟨j', n2, rfl, hjj, hij2, hw2, hsd⟩ := hrel
          have hcw : ∀ t, t < d.size → wr.cell? ⟨blk, off + t, none⟩ = some (.int .u64 (Gk t)) := fun t ht => by rw [hw2]; exact hc t ht
          have HW2 : Hid (wr = W1.drewN n2) := hw2
          clear hw2
          by_cases hle2 : i' ≤ j'
          · go_wp2_with fail
            go_big_quiet (first | (go_at_call 204; refine Calls.quiet_of_same (su_cmp_Less_int _ _ _)))
            go_wp2
            · -- it goes on: j--
              have ht : (!Sort.ltInt (Gk j') (Gk a)) = true := by assumption
              go_roundw
              case rel => exact ⟨j' - 1, n2 + nq, by go_num, by omega, by omega, by rw [HW2.out, World.drewN_drewN], (scanDown_go (fun x => !Sort.ltInt x dk[a]!) dk i' j' hle2 (by omega) (by rw [← AG.out a, ← AG.out j']; exact ht)).symm.trans hsd.out⟩
              case measure => simp [intOf]; omega
            · -- it stops: the test has failed
              have ht : (!Sort.ltInt (Gk j') (Gk a)) = false := by assumption
              have hj2 : Hid (j' = Sort.scanDown (fun x => !Sort.ltInt x dk[a]!) dk i' j) := (scanDown_end (fun x => !Sort.ltInt x dk[a]!) dk i' j' (Or.inr (by rw [← AG.out a, ← AG.out j']; exact ht))).symm.trans hsd.out
              clear hcw hsd ht
              -- BEHIND BOTH SCANS
              have hw3 : wr.drewN nq = W1.drewN (n2 + nq) := by rw [HW2.out, World.drewN_drewN]
              generalize wr.drewN nq = W3 at hw3 ⊢
              have hc3 : ∀ t, t < d.size → W3.cell? ⟨blk, off + t, none⟩ = some (.int .u64 (Gk t)) := fun t ht => by rw [hw3]; exact hc t ht
              have hf3 : ∀ t, t < d.size → W3.frozen? ⟨blk, off + t, none⟩ = false := fun t ht => by rw [hw3]; exact hf t ht
              have HW3 : Hid (W3 = W1.drewN (n2 + nq)) := hw3
              clear hw3
              -- the exchange; i++; j--
              obtain ⟨v3, hy3⟩ := cell?_setCell_some (w := W3) (p := ⟨blk, off + i', none⟩) (x := .int .u64 (Gk j')) (q := ⟨blk, off + j', none⟩) (hc3 j' (by omega))
              have hlt3 := part_scans_lt Sort.ltInt a i j dk (by omega) hi2.out hj2.out hle2
              go_wp2
              go_region
              all_goals go_wp2
              -- THE 'for {'
              obtain ⟨R, hR⟩ : ∃ R, R = Sort.partLoop Sort.ltInt a (i' + 1) (j' - 1) (Sort.swp dk i' j') := ⟨_, rfl⟩
              have HP : Hid (Sort.partition Sort.ltInt d a b pivot = (R.1, false, Sort.swp R.2 R.1 a)) := by rw [hR]; exact part_first_go Sort.ltInt d a b pivot HI.out HJ.out HDK.out hi2.out hj2.out (by omega)
              have hw0 : ((W3.setCell ⟨blk, off + i', none⟩ (.int .u64 (Gk j'))).setCell ⟨blk, off + j', none⟩ (.int .u64 (Gk i'))).drew = (putRow (Value.int .u64) w blk off (Sort.swp dk i' j')).drewN (n + (n2 + nq) + 1) := by
                rw [HW3.out, AW.out, World.drewN_drewN, AG.out i', AG.out j']
                exact swap_worldC (Value.int .u64) w blk off dk _ i' j' (by omega) (by omega)
              have HR : Hid (R = Sort.partLoop Sort.ltInt a (i' + 1) (j' - 1) (Sort.swp dk i' j')) := hR
              clear hR hc hf hc3 hf3 hy3 HW3 AW AG hi2 hj2
              go_loopw [10, 11] (fun vi vj wr => ∃ (i j n : Nat) (dk : Array Int), vi = .int .i64 i ∧ vj = .int .i64 j ∧ a < i ∧ i ≤ j + 1 ∧ j < b ∧ dk.size = d.size ∧ wr = (putRow (Value.int .u64) w blk off dk).drewN n ∧
                  Sort.partLoop Sort.ltInt a i j dk = R)
                (fun vi vj _ => (intOf vj).toNat + 1 - (intOf vi).toNat)
              case atStart => exact ⟨i' + 1, j' - 1, _, Sort.swp dk i' j', by go_num, by go_num, by omega, by omega, by omega, by rw [size_swp]; exact hs, hw0, HR.out.symm⟩
              case round =>
                clear hw0 HR
                obtain ⟨i, j, n, dk, rfl, rfl, hai, hij, hjb, hs, hw, heq⟩ := hrel
                rename World => W1
                have AE : Hid (Sort.partLoop Sort.ltInt a i j dk = R) := heq
                clear heq
                have hHk : Holds (Value.int .u64) W1 blk off dk := by
                  rw [hw]
                  exact holds_putRow (Value.int .u64) w blk off d dk AH.out hs
                obtain ⟨Gk, hG⟩ : ∃ Gk : Nat → Int, ∀ t, Gk t = dk[t]! := ⟨fun t => dk[t]!, fun _ => rfl⟩
                have hc : ∀ t, t < d.size → W1.cell? ⟨blk, off + t, none⟩ = some (.int .u64 (Gk t)) := fun t ht => by rw [hG]; exact (hHk t (by omega)).1
                have hf : ∀ t, t < d.size → W1.frozen? ⟨blk, off + t, none⟩ = false := fun t ht => (hHk t (by omega)).2
                have AG : Hid (∀ t, Gk t = dk[t]!) := hG
                have AW : Hid (W1 = (putRow (Value.int .u64) w blk off dk).drewN n) := hw
                clear hG hw hHk
                go_wp2
                -- THE UPWARD SCAN
                go_loopw [10] (fun vi w1 => ∃ (i' n1 : Nat), vi = .int .i64 i' ∧ i ≤ i' ∧ i' ≤ j + 1 ∧ w1 = W1.drewN n1 ∧
                    Hid (Sort.scanUp (fun x => Sort.ltInt x dk[a]!) dk j i' = Sort.scanUp (fun x => Sort.ltInt x dk[a]!) dk j i))
                  (fun vi _ => j + 1 - (intOf vi).toNat)
                case atStart => exact ⟨i, 0, rfl, Nat.le_refl _, hij, rfl, rfl⟩
                case round =>
                  obtain ⟨i', n1, rfl, hii, hij', hw1, hsc⟩ := hrel
                  have hcw : ∀ t, t < d.size → wr.cell? ⟨blk, off + t, none⟩ = some (.int .u64 (Gk t)) := fun t ht => by rw [hw1]; exact hc t ht
                  have HW1 : Hid (wr = W1.drewN n1) := hw1
                  clear hw1
                  by_cases hle : i' ≤ j
                  · go_wp2_with fail
                    go_big_quiet (first | (go_at_call 204; refine Calls.quiet_of_same (su_cmp_Less_int _ _ _)))
                    go_wp2
                    · -- it goes on: i++
                      have ht : Sort.ltInt (Gk i') (Gk a) = true := by assumption
                      go_roundw
                      case rel => exact ⟨i' + 1, n1 + nq, by go_num, by omega, by omega, by rw [HW1.out, World.drewN_drewN], (scanUp_go (fun x => Sort.ltInt x dk[a]!) dk j i' hle (by rw [← AG.out a, ← AG.out i']; exact ht)).symm.trans hsc.out⟩
                      case measure => simp [intOf]; omega
                    · -- it stops: the test has failed
                      have ht : Sort.ltInt (Gk i') (Gk a) = false := by assumption
                      have hi2 : Hid (i' = Sort.scanUp (fun x => Sort.ltInt x dk[a]!) dk j i) := (scanUp_end (fun x => Sort.ltInt x dk[a]!) dk j i' (Or.inr (by rw [← AG.out a, ← AG.out i']; exact ht))).symm.trans hsc.out
                      clear ht
                      -- THE DOWNWARD SCAN
                      have hw2 : wr.drewN nq = W1.drewN (n1 + nq) := by rw [HW1.out, World.drewN_drewN]
                      clear hcw HW1 hsc
                      go_loopw [11] (fun vj w2 => ∃ (j' n2 : Nat), vj = .int .i64 j' ∧ j' ≤ j ∧ i' ≤ j' + 1 ∧ w2 = W1.drewN n2 ∧
                          Hid (Sort.scanDown (fun x => !Sort.ltInt x dk[a]!) dk i' j' = Sort.scanDown (fun x => !Sort.ltInt x dk[a]!) dk i' j))
                        (fun vj _ => (intOf vj).toNat)
                      case atStart => exact ⟨j, n1 + nq, rfl, Nat.le_refl _, hij', hw2, rfl⟩
                      case round =>
                        clear hw2
                        obtain ⟨j', n2, rfl, hjj, hij2, hw2, hsd⟩ := hrel
                        have hcw : ∀ t, t < d.size → wr.cell? ⟨blk, off + t, none⟩ = some (.int .u64 (Gk t)) := fun t ht => by rw [hw2]; exact hc t ht
                        have HW2 : Hid (wr = W1.drewN n2) := hw2
                        clear hw2
                        by_cases hle2 : i' ≤ j'
                        · go_wp2_with fail
                          go_big_quiet (first | (go_at_call 204; refine Calls.quiet_of_same (su_cmp_Less_int _ _ _)))
                          go_wp2
                          · -- it goes on: j--
                            have ht : (!Sort.ltInt (Gk j') (Gk a)) = true := by assumption
                            go_roundw
                            case rel => exact ⟨j' - 1, n2 + nq, by go_num, by omega, by omega, by rw [HW2.out, World.drewN_drewN], (scanDown_go (fun x => !Sort.ltInt x dk[a]!) dk i' j' hle2 (by omega) (by rw [← AG.out a, ← AG.out j']; exact ht)).symm.trans hsd.out⟩
                            case measure => simp [intOf]; omega
                          · -- it stops: the test has failed
                            have ht : (!Sort.ltInt (Gk j') (Gk a)) = false := by assumption
                            have hj2 : Hid (j' = Sort.scanDown (fun x => !Sort.ltInt x dk[a]!) dk i' j) := (scanDown_end (fun x => !Sort.ltInt x dk[a]!) dk i' j' (Or.inr (by rw [← AG.out a, ← AG.out j']; exact ht))).symm.trans hsd.out
                            clear hcw hsd ht
                            -- BEHIND BOTH SCANS
                            have hw3 : wr.drewN nq = W1.drewN (n2 + nq) := by rw [HW2.out, World.drewN_drewN]
                            generalize wr.drewN nq = W3 at hw3 ⊢
                            have hc3 : ∀ t, t < d.size → W3.cell? ⟨blk, off + t, none⟩ = some (.int .u64 (Gk t)) := fun t ht => by rw [hw3]; exact hc t ht
                            have hf3 : ∀ t, t < d.size → W3.frozen? ⟨blk, off + t, none⟩ = false := fun t ht => by rw [hw3]; exact hf t ht
                            have HW3 : Hid (W3 = W1.drewN (n2 + nq)) := hw3
                            clear hw3
                            -- the exchange; i++; j--
                            obtain ⟨v3, hy3⟩ := cell?_setCell_some (w := W3) (p := ⟨blk, off + i', none⟩) (x := .int .u64 (Gk j')) (q := ⟨blk, off + j', none⟩) (hc3 j' (by omega))
                            have hlt3 := part_scans_lt Sort.ltInt a i j dk (by omega) hi2.out hj2.out hle2
                            go_wp2
                            go_region
                            all_goals go_wp2
                            all_goals go_roundw
                            case rel =>
                              refine ⟨i' + 1, j' - 1, n + (n2 + nq) + 1, Sort.swp dk i' j', by go_num, by go_num, by omega, by omega, by omega, by rw [size_swp]; exact hs, ?_, ?_⟩
                              · rw [HW3.out, AW.out, World.drewN_drewN, AG.out i', AG.out j']
                                exact swap_worldC (Value.int .u64) w blk off dk _ i' j' (by omega) (by omega)
                              · exact (part_go Sort.ltInt a i j dk hi2.out hj2.out (by omega)).symm.trans AE.out
                            case measure => simp [intOf]; omega
                        · go_wp2_with fail
                          go_big_quiet (first | (go_at_call 204; refine Calls.quiet_of_same (su_cmp_Less_int _ _ _)))
                          -- it stops: i > j
                          have hj2 : Hid (j' = Sort.scanDown (fun x => !Sort.ltInt x dk[a]!) dk i' j) := (scanDown_end (fun x => !Sort.ltInt x dk[a]!) dk i' j' (Or.inl hle2)).symm.trans hsd.out
                          clear hcw hsd
                          -- BEHIND BOTH SCANS
                          have hw3 : wr.drewN nq = W1.drewN (n2 + nq) := by rw [HW2.out, World.drewN_drewN]
                          generalize wr.drewN nq = W3 at hw3 ⊢
                          have hc3 : ∀ t, t < d.size → W3.cell? ⟨blk, off + t, none⟩ = some (.int .u64 (Gk t)) := fun t ht => by rw [hw3]; exact hc t ht
                          have hf3 : ∀ t, t < d.size → W3.frozen? ⟨blk, off + t, none⟩ = false := fun t ht => by rw [hw3]; exact hf t ht
                          have HW3 : Hid (W3 = W1.drewN (n2 + nq)) := hw3
                          clear hw3
                          -- i > j: 'data[j], data[a] = data[a], data[j]'; return j
                          obtain ⟨v3, hy3⟩ := cell?_setCell_some (w := W3) (p := ⟨blk, off + j', none⟩) (x := .int .u64 (Gk a)) (q := ⟨blk, off + a, none⟩) (hc3 a (by omega))
                          have hlj : j' < d.size := by omega
                          go_wp2
                          go_region
                          all_goals go_wp2
                          all_goals go_ret2
                          have e : Sort.partition Sort.ltInt d a b pivot = (j', false, Sort.swp dk j' a) := by
                            have e0 := (part_break Sort.ltInt a i j dk hi2.out hj2.out (by omega)).symm.trans AE.out
                            rw [HP.out, ← e0]
                          refine ⟨?_, n + (n2 + nq) + 1, ?_⟩
                          · rw [e]; rfl
                          · rw [e, HW3.out, AW.out, World.drewN_drewN, AG.out a, AG.out j']
                            exact swap_worldC (Value.int .u64) w blk off dk _ j' a (by omega) (by omega)
                  · go_wp2_with fail
                    go_big_quiet (first | (go_at_call 204; refine Calls.quiet_of_same (su_cmp_Less_int _ _ _)))
                    go_wp2
                    -- it stops: i > j
                    have hi2 : Hid (i' = Sort.scanUp (fun x => Sort.ltInt x dk[a]!) dk j i) := (scanUp_end (fun x => Sort.ltInt x dk[a]!) dk j i' (Or.inl hle)).symm.trans hsc.out
                    -- THE DOWNWARD SCAN
                    have hw2 : wr.drewN nq = W1.drewN (n1 + nq) := by rw [HW1.out, World.drewN_drewN]
                    clear hcw HW1 hsc
                    go_loopw [11] (fun vj w2 => ∃ (j' n2 : Nat), vj = .int .i64 j' ∧ j' ≤ j ∧ i' ≤ j' + 1 ∧ w2 = W1.drewN n2 ∧
                        Hid (Sort.scanDown (fun x => !Sort.ltInt x dk[a]!) dk i' j' = Sort.scanDown (fun x => !Sort.ltInt x dk[a]!) dk i' j))
                      (fun vj _ => (intOf vj).toNat)
                    case atStart => exact ⟨j, n1 + nq, rfl, Nat.le_refl _, hij', hw2, rfl⟩
                    case round =>
                      clear hw2
                      obtain ⟨j', n2, rfl, hjj, hij2, hw2, hsd⟩ := hrel
                      have hcw : ∀ t, t < d.size → wr.cell? ⟨blk, off + t, none⟩ = some (.int .u64 (Gk t)) := fun t ht => by rw [hw2]; exact hc t ht
                      have HW2 : Hid (wr = W1.drewN n2) := hw2
                      clear hw2
                      by_cases hle2 : i' ≤ j'
                      · exfalso; omega      -- the upward scan has run past j, and j' ≤ j
                      · go_wp2_with fail
                        go_big_quiet (first | (go_at_call 204; refine Calls.quiet_of_same (su_cmp_Less_int _ _ _)))
                        -- it stops: i > j
                        have hj2 : Hid (j' = Sort.scanDown (fun x => !Sort.ltInt x dk[a]!) dk i' j) := (scanDown_end (fun x => !Sort.ltInt x dk[a]!) dk i' j' (Or.inl hle2)).symm.trans hsd.out
                        clear hcw hsd
                        -- BEHIND BOTH SCANS
                        have hw3 : wr.drewN nq = W1.drewN (n2 + nq) := by rw [HW2.out, World.drewN_drewN]
                        generalize wr.drewN nq = W3 at hw3 ⊢
                        have hc3 : ∀ t, t < d.size → W3.cell? ⟨blk, off + t, none⟩ = some (.int .u64 (Gk t)) := fun t ht => by rw [hw3]; exact hc t ht
                        have hf3 : ∀ t, t < d.size → W3.frozen? ⟨blk, off + t, none⟩ = false := fun t ht => by rw [hw3]; exact hf t ht
                        have HW3 : Hid (W3 = W1.drewN (n2 + nq)) := hw3
                        clear hw3
                        -- i > j: 'data[j], data[a] = data[a], data[j]'; return j
                        obtain ⟨v3, hy3⟩ := cell?_setCell_some (w := W3) (p := ⟨blk, off + j', none⟩) (x := .int .u64 (Gk a)) (q := ⟨blk, off + a, none⟩) (hc3 a (by omega))
                        have hlj : j' < d.size := by omega
                        go_wp2
                        go_region
                        all_goals go_wp2
                        all_goals go_ret2
                        have e : Sort.partition Sort.ltInt d a b pivot = (j', false, Sort.swp dk j' a) := by
                          have e0 := (part_break Sort.ltInt a i j dk hi2.out hj2.out (by omega)).symm.trans AE.out
                          rw [HP.out, ← e0]
                        refine ⟨?_, n + (n2 + nq) + 1, ?_⟩
                        · rw [e]; rfl
                        · rw [e, HW3.out, AW.out, World.drewN_drewN, AG.out a, AG.out j']
                          exact swap_worldC (Value.int .u64) w blk off dk _ j' a (by omega) (by omega)
          · go_wp2_with fail
            go_big_quiet (first | (go_at_call 204; refine Calls.quiet_of_same (su_cmp_Less_int _ _ _)))
            -- it stops: i > j
            have hj2 : Hid (j' = Sort.scanDown (fun x => !Sort.ltInt x dk[a]!) dk i' j) := (scanDown_end (fun x => !Sort.ltInt x dk[a]!) dk i' j' (Or.inl hle2)).symm.trans hsd.out
            clear hcw hsd
            -- BEHIND BOTH SCANS
            have hw3 : wr.drewN nq = W1.drewN (n2 + nq) := by rw [HW2.out, World.drewN_drewN]
            generalize wr.drewN nq = W3 at hw3 ⊢
            have hc3 : ∀ t, t < d.size → W3.cell? ⟨blk, off + t, none⟩ = some (.int .u64 (Gk t)) := fun t ht => by rw [hw3]; exact hc t ht
            have hf3 : ∀ t, t < d.size → W3.frozen? ⟨blk, off + t, none⟩ = false := fun t ht => by rw [hw3]; exact hf t ht
            have HW3 : Hid (W3 = W1.drewN (n2 + nq)) := hw3
            clear hw3
            -- i > j: 'data[j], data[a] = data[a], data[j]'; return j
            obtain ⟨v3, hy3⟩ := cell?_setCell_some (w := W3) (p := ⟨blk, off + j', none⟩) (x := .int .u64 (Gk a)) (q := ⟨blk, off + a, none⟩) (hc3 a (by omega))
            have hlj : j' < d.size := by omega
            go_wp2
            go_region
            all_goals go_wp2
            all_goals go_ret2
            have e : Sort.partition Sort.ltInt d a b pivot = (j', true, Sort.swp dk j' a) := part_first_break Sort.ltInt d a b pivot HI.out HJ.out HDK.out hi2.out hj2.out (by omega)
            refine ⟨?_, n + (n2 + nq) + 1, ?_⟩
            · rw [e]; rfl
            · rw [e, HW3.out, AW.out, World.drewN_drewN, AG.out a, AG.out j']
              exact swap_worldC (Value.int .u64) w blk off dk _ j' a (by omega) (by omega)
    · go_wp2_with fail
      go_big_quiet (first | (go_at_call 204; refine Calls.quiet_of_same (su_cmp_Less_int _ _ _)))
      go_wp2
      -- it stops: i > j
      have hi2 : Hid (i' = Sort.scanUp (fun x => Sort.ltInt x dk[a]!) dk j i) := (scanUp_end (fun x => Sort.ltInt x dk[a]!) dk j i' (Or.inl hle)).symm.trans hsc.out
      -- THE DOWNWARD SCAN
      have hw2 : wr.drewN nq = W1.drewN (n1 + nq) := by rw [HW1.out, World.drewN_drewN]
      clear hcw HW1 hsc
      go_loopw [11] (fun vj w2 => ∃ (j' n2 : Nat), vj = .int .i64 j' ∧ j' ≤ j ∧ i' ≤ j' + 1 ∧ w2 = W1.drewN n2 ∧
          Hid (Sort.scanDown (fun x => !Sort.ltInt x dk[a]!) dk i' j' = Sort.scanDown (fun x => !Sort.ltInt x dk[a]!) dk i' j))
        (fun vj _ => (intOf vj).toNat)
      case atStart => exact ⟨j, n1 + nq, rfl, Nat.le_refl _, hij', hw2, rfl⟩
      case round =>
        clear hw2
        obtain ⟨j', n2, rfl, hjj, hij2, hw2, hsd⟩ := hrel
        have hcw : ∀ t, t < d.size → wr.cell? ⟨blk, off + t, none⟩ = some (.int .u64 (Gk t)) := fun t ht => by rw [hw2]; exact hc t ht
        have HW2 : Hid (wr = W1.drewN n2) := hw2
        clear hw2
        by_cases hle2 : i' ≤ j'
        · exfalso; omega      -- the upward scan has run past j, and j' ≤ j
        · go_wp2_with fail
          go_big_quiet (first | (go_at_call 204; refine Calls.quiet_of_same (su_cmp_Less_int _ _ _)))
          -- it stops: i > j
          have hj2 : Hid (j' = Sort.scanDown (fun x => !Sort.ltInt x dk[a]!) dk i' j) := (scanDown_end (fun x => !Sort.ltInt x dk[a]!) dk i' j' (Or.inl hle2)).symm.trans hsd.out
          clear hcw hsd
          -- BEHIND BOTH SCANS
          have hw3 : wr.drewN nq = W1.drewN (n2 + nq) := by rw [HW2.out, World.drewN_drewN]
          generalize wr.drewN nq = W3 at hw3 ⊢
          have hc3 : ∀ t, t < d.size → W3.cell? ⟨blk, off + t, none⟩ = some (.int .u64 (Gk t)) := fun t ht => by rw [hw3]; exact hc t ht
          have hf3 : ∀ t, t < d.size → W3.frozen? ⟨blk, off + t, none⟩ = false := fun t ht => by rw [hw3]; exact hf t ht
          have HW3 : Hid (W3 = W1.drewN (n2 + nq)) := hw3
          clear hw3
          -- i > j: 'data[j], data[a] = data[a], data[j]'; return j
          obtain ⟨v3, hy3⟩ := cell?_setCell_some (w := W3) (p := ⟨blk, off + j', none⟩) (x := .int .u64 (Gk a)) (q := ⟨blk, off + a, none⟩) (hc3 a (by omega))
          have hlj : j' < d.size := by omega
          go_wp2
          go_region
          all_goals go_wp2
          all_goals go_ret2
          have e : Sort.partition Sort.ltInt d a b pivot = (j', true, Sort.swp dk j' a) := part_first_break Sort.ltInt d a b pivot HI.out HJ.out HDK.out hi2.out hj2.out (by omega)
          refine ⟨?_, n + (n2 + nq) + 1, ?_⟩
          · rw [e]; rfl
          · rw [e, HW3.out, AW.out, World.drewN_drewN, AG.out a, AG.out j']
            exact swap_worldC (Value.int .u64) w blk off dk _ j' a (by omega) (by omega)

theorem su_partitionOrdered_int (blk off cap a b pivot : Nat) (d : Array Int) (w : World) (hH : Holds (Value.int .u64) w blk off d) (hap : a ≤ pivot) (hpb : pivot < b) (hb : b ≤ d.size) (hsz : d.size < 4611686018427387904) :
    Calls Try.prog 206 #[.slice (some ⟨blk, off, none⟩) d.size cap, .int .i64 a, .int .i64 b, .int .i64 pivot] w fun e w' =>
      e = .returned (.tuple #[.int .i64 (Sort.partition Sort.ltInt d a b pivot).1, .bool (Sort.partition Sort.ltInt d a b pivot).2.1]) ∧ ∃ n, w' = putRow (Value.int .u64) (Sort.ahead w n) blk off (Sort.partition Sort.ltInt d a b pivot).2.2 :=
  (su_partition_int blk off cap a b pivot d w hH hap hpb hb hsz).mono fun _ _ ⟨he, n, hw⟩ => ⟨he, n, hw⟩
end Go.Proofs

namespace Go.Proofs
open Go.RowKit Go.Sort
set_option maxRecDepth 1000000 in
theorem su_xorshift_Next (rb ro X : Nat) (hX : X < 18446744073709551616) (w : World) (hc : w.cell? ⟨rb, ro, none⟩ = some (.int .u64 X)) (hf : w.frozen? ⟨rb, ro, none⟩ = false) :
    Calls Try.prog 216 #[.pointer (some ⟨rb, ro, none⟩)] w fun e w' => e = .returned (.int .u64 (xorNextN X : Nat)) ∧ w' = (w.setCell ⟨rb, ro, none⟩ (.int .u64 (xorNextN X : Nat))).drewN 3 := by
  -- the three numbers under names of their own; an equation a step, in the walk's own spelling
  obtain ⟨A, hA⟩ : ∃ A : Nat, A = X ^^^ (X * 8192 % 18446744073709551616) := ⟨_, rfl⟩
  obtain ⟨B, hB⟩ : ∃ B : Nat, B = A ^^^ (A / 128) := ⟨_, rfl⟩
  obtain ⟨C, hC⟩ : ∃ C : Nat, C = B ^^^ (B * 131072 % 18446744073709551616) := ⟨_, rfl⟩
  have lA : A < 18446744073709551616 := by rw [hA]; exact Nat.xor_lt_two_pow (n := 64) (by omega) (by omega)
  have lB : B < 18446744073709551616 := by rw [hB]; exact Nat.xor_lt_two_pow (n := 64) (by omega) (by omega)
  have e1 : bits .xor .u64 (X : Int) (IntKind.u64.wrap ((X : Int) * 8192)) = (A : Int) := by
    rw [IntKind.wrap_u64, show ((X : Int) * 8192 % 18446744073709551616) = ((X * 8192 % 18446744073709551616 : Nat) : Int) by omega, bits_xor_u64_nat _ _ hX (by omega), hA]
  have e2 : bits .xor .u64 (A : Int) ((A : Int) / 128) = (B : Int) := by
    rw [show ((A : Int) / 128) = ((A / 128 : Nat) : Int) by omega, bits_xor_u64_nat _ _ lA (by omega), hB]
  have e3 : bits .xor .u64 (B : Int) (IntKind.u64.wrap ((B : Int) * 131072)) = (C : Int) := by
    rw [IntKind.wrap_u64, show ((B : Int) * 131072 % 18446744073709551616) = ((B * 131072 % 18446744073709551616 : Nat) : Int) by omega, bits_xor_u64_nat _ _ lB (by omega), hC]
  have hv : xorNextN X = C := by unfold xorNextN; simp only []; rw [← hA, ← hB, ← hC]
  rw [hv]
  clear hA hB hC hv
  -- the stores are not let pile up: behind three of them the last load stood still
  have hss : ∀ v v', (w.setCell ⟨rb, ro, none⟩ v).setCell ⟨rb, ro, none⟩ v' = w.setCell ⟨rb, ro, none⟩ v' := setCell_setCell w rb ro
  go_enter Try.func216, Try.ntmps216
  go_wp2
  go_region
  all_goals go_wp2
  all_goals go_region
  all_goals go_wp2
  all_goals go_region
  all_goals go_wp2
  go_ret
  exact ⟨rfl, rfl⟩

theorem su_nextPowerOfTwo (n : Nat) (hn : n < 4611686018427387904) (w : World) :
    Calls Try.prog 215 #[.int .i64 n] w fun e w' => e = .returned (.int .u64 ((1 <<< bitsLen n : Nat) : Int)) ∧ w' = w := by
  have hLen : ∀ w, Calls Try.prog 190 #[.int .u64 (n : Int)] w fun e w' => e = .returned (.int .i64 (bitsLen n : Nat)) ∧ w' = w := fun w => by
    have h := su_bits_Len (n : Int) w (by omega) (by omega)
    rwa [Int.toNat_natCast, bitLen_eq _ (by omega)] at h
  have hk : bitsLen n ≤ 62 := (bitsLen_le_iff n 62).2 (by omega)
  have hp := wrap_two_pow (bitsLen n) hk
  go_enter Try.func215, Try.ntmps215
  go_wp2_with (first | (go_at_call 190; refine (hLen _).mono ?_; rintro e w' ⟨rfl, rfl⟩))
  go_ret
  exact ⟨rfl, rfl⟩

set_option maxHeartbeats 1000000 in
set_option maxRecDepth 1000000 in
theorem su_breakPatterns_int_go (blk off cap a L : Nat) (d : Array Int) (w : World) (hH : Holds (Value.int .u64) w blk off d) (hblk : blk < w.heap.size) (hb : a + L ≤ d.size) (hsz : d.size < 4611686018427387904) (h8 : 8 ≤ L) :
    Calls Try.prog 200 #[.slice (some ⟨blk, off, none⟩) d.size cap, .int .i64 a, .int .i64 ((a + L : Nat) : Int)] w fun e w' =>
      e = .returned (.tuple #[]) ∧ ∃ (n : Nat) (os : OsU), w' = grow (putRow (Value.int .u64) (Sort.ahead w n) blk off (breakPatterns d a (a + L))) os.1 := by
  rw [breakPatterns_eq d a L h8]
  -- the modulus under a name of its own (written out, simp pushes the cast into the shift)
  obtain ⟨M, hM⟩ : ∃ M : Nat, M = 1 <<< bitsLen L := ⟨_, rfl⟩
  have hM1 : 1 ≤ M := by rw [hM, Nat.one_shiftLeft]; exact Nat.two_pow_pos _
  have hM2 : M ≤ 2 * L := by rw [hM, Nat.one_shiftLeft]; exact two_pow_bitsLen_le (by omega)
  have hNP : ∀ w, Calls Try.prog 215 #[.int .i64 (L : Int)] w fun e w' => e = .returned (.int .u64 (M : Int)) ∧ w' = w := by rw [hM]; exact fun w => su_nextPowerOfTwo L (by omega) w
  rw [← hM]
  clear hM
  have HH : Hid (Holds (Value.int .u64) w blk off d) := hH
  have HST : Hid (w.alloc (Obj.cells #[.int .u64 (L : Int)] 249) = grow (putRow (Value.int .u64) (Sort.ahead w 0) blk off d) #[Obj.cells #[.int .u64 ((UInt64.ofNat L).toNat : Int)] 249]) := by
    show _ = _
    rw [show Sort.ahead w 0 = w from rfl, putRow_self _ _ _ _ _ hH, alloc_eq_grow, show (UInt64.ofNat L).toNat = L from by simp; omega]
  clear hH
  go_enter Try.func200, Try.ntmps200
  go_wp2_with (first | (go_at_call 215; rw [show ((a : Int) + (L : Int) - (a : Int)) = (L : Int) by omega]; refine (hNP _).mono ?_; rintro e w' ⟨rfl, rfl⟩))
  go_loopw [9] (fun vi wr => ∃ (t n : Nat) (r : UInt64) (dk : Array Int), vi = .int .i64 ((a + L / 4 * 2 - 1 + t : Nat) : Int) ∧ t ≤ 3 ∧ dk.size = d.size ∧
      wr = grow (putRow (Value.int .u64) (Sort.ahead w n) blk off dk) #[Obj.cells #[.int .u64 (r.toNat : Int)] 249] ∧
      bpRest a L M (a + L / 4 * 2 - 1) (3 - t) t (r, dk) = bpRest a L M (a + L / 4 * 2 - 1) 3 0 (UInt64.ofNat L, d)) (fun vi _ => a + L / 4 * 2 + 3 - (intOf vi).toNat)
  case atStart => exact ⟨0, 0, UInt64.ofNat L, d, by congr 1; omega, by omega, rfl, HST.out, rfl⟩
  case round =>
    obtain ⟨t, n, r, dk, rfl, ht, hsk, hw, hR⟩ := hrel
    -- this round's numbers under names of their own
    obtain ⟨R, hRr⟩ : ∃ R : Nat, R = r.toNat := ⟨_, rfl⟩
    have lR : R < 18446744073709551616 := by rw [hRr]; exact r.toNat_lt
    obtain ⟨R', hR'⟩ : ∃ R' : Nat, R' = xorNextN R := ⟨_, rfl⟩
    have lR' : R' < 18446744073709551616 := by rw [hR']; exact xorNextN_lt R lR
    obtain ⟨O, hO⟩ : ∃ O : Nat, O = R' &&& (M - 1) := ⟨_, rfl⟩
    have lO : O ≤ M - 1 := by rw [hO]; exact Nat.and_le_right
    have eAnd : bits .and .u64 (R' : Int) ((M : Int) - 1) = (O : Int) := by
      rw [show ((M : Int) - 1) = ((M - 1 : Nat) : Int) by omega, bits_and_u64_nat _ _ lR' (by omega), hO]
    obtain ⟨G, hG⟩ : ∃ G : Nat → Int, ∀ x, G x = dk[x]! := ⟨fun x => dk[x]!, fun _ => rfl⟩
    have hz : (putRow (Value.int .u64) (Sort.ahead w n) blk off dk).heap.size = w.heap.size := by simp
    have hcw : ∀ x, x < d.size → wr.cell? ⟨blk, off + x, none⟩ = some (.int .u64 (G x)) := fun x hx => by
      rw [hw, cell?_grow _ _ _ (by rw [hz]; exact hblk), hG]; exact cell?_putRow _ _ _ _ d dk (holds_ahead _ _ _ _ _ _ HH.out) hsk x (by omega)
    have hfw : ∀ x, x < d.size → wr.frozen? ⟨blk, off + x, none⟩ = false := fun x hx => by
      rw [hw, frozen?_grow _ _ _ (by rw [hz]; exact hblk), frozen?_putRow]; exact ((holds_ahead _ _ n _ _ _ HH.out) x hx).2
    have hcB : wr.cell? ⟨w.heap.size, 0, none⟩ = some (.int .u64 (R : Int)) := by rw [hw, hRr, ← hz]; exact grow_one_cell _ _ _
    have hfB : wr.frozen? ⟨w.heap.size, 0, none⟩ = false := by rw [hw, ← hz]; exact grow_one_frozen _ _ _
    have hNext : Calls Try.prog 216 #[.pointer (some ⟨w.heap.size, 0, none⟩)] wr fun e w' => e = .returned (.int .u64 (R' : Int)) ∧ w' = (wr.setCell ⟨w.heap.size, 0, none⟩ (.int .u64 (R' : Int))).drewN 3 := by
      rw [hR']; exact su_xorshift_Next _ _ R lR wr hcB hfB
    have HW : Hid (wr = grow (putRow (Value.int .u64) (Sort.ahead w n) blk off dk) #[Obj.cells #[.int .u64 (r.toNat : Int)] 249]) := hw
    have HG : Hid (∀ x, G x = dk[x]!) := hG
    have HR : Hid (bpRest a L M (a + L / 4 * 2 - 1) (3 - t) t (r, dk) = bpRest a L M (a + L / 4 * 2 - 1) 3 0 (UInt64.ofNat L, d)) := hR
    have HN : Hid (R' = (xorNext r).toNat ∧ O = (xorNext r).toNat &&& (M - 1)) := by
      have e : R' = (xorNext r).toNat := by rw [hR', hRr, xorNext_toNat]
      exact ⟨e, by rw [hO, e]⟩
    clear hw hG hR hRr hR' hO
    go_wp2_with (first | (go_at_call 216; refine hNext.mono ?_; rintro e w' ⟨rfl, rfl⟩))
    -- ✋ THE RANDOM PLACE MAY BE idx ITSELF (Go then swaps an element with itself): whether the two stores hit one cell is not for arithmetic to say: PART ON IT AHEAD OF THE REGION
    · -- other >= length: other -= length
      have hLO : L ≤ O := by omega
      by_cases hEq : a + L / 4 * 2 - 1 + t = a + (O - L)
      all_goals
        go_region
        all_goals go_wp2
        go_roundw
        case rel =>
          refine ⟨t + 1, n + 4, xorNext r, swp dk (a + L / 4 * 2 - 1 + t) (a + (O - L)), by first | rfl | (congr 1 <;> omega), by omega, by rw [size_swp]; exact hsk, ?_, ?_⟩
          · (try rw [hEq])      -- (where the two places are one, the walk has written the one for the other)
            rw [HW.out, HN.out.1]
            simp only [HG.out]
            exact step_world (Value.int .u64) w n 4 blk off dk _ _ hblk (by omega) (by omega) _ _ _
          · rw [← HR.out, bp_step a L M _ t r dk (O - L) (by omega) (by rw [← HN.out.2, if_pos (by omega)])]
        case measure => simp [intOf]; omega
    · have hLO : ¬ L ≤ O := by omega
      by_cases hEq : a + L / 4 * 2 - 1 + t = a + O
      all_goals
        go_region
        all_goals go_wp2
        go_roundw
        case rel =>
          refine ⟨t + 1, n + 4, xorNext r, swp dk (a + L / 4 * 2 - 1 + t) (a + O), by first | rfl | (congr 1 <;> omega), by omega, by rw [size_swp]; exact hsk, ?_, ?_⟩
          · (try rw [hEq])      -- (where the two places are one, the walk has written the one for the other)
            rw [HW.out, HN.out.1]
            simp only [HG.out]
            exact step_world (Value.int .u64) w n 4 blk off dk _ _ hblk (by omega) (by omega) _ _ _
          · rw [← HR.out, bp_step a L M _ t r dk O (by omega) (by rw [← HN.out.2, if_neg (by omega)])]
        case measure => simp [intOf]; omega
    · -- three rounds are done
      obtain rfl : t = 3 := by omega
      go_end0
      exact ⟨rfl, n, ⟨_, okOne _ _⟩, by rw [← HR.out, HW.out]; rfl⟩

theorem su_breakPatterns_int (blk off cap a b : Nat) (d : Array Int) (w : World) (hH : Holds (Value.int .u64) w blk off d) (hblk : blk < w.heap.size) (hab : a ≤ b) (hb : b ≤ d.size) (hsz : d.size < 4611686018427387904) :
    Calls Try.prog 200 #[.slice (some ⟨blk, off, none⟩) d.size cap, .int .i64 a, .int .i64 b] w fun e w' =>
      e = .returned (.tuple #[]) ∧ ∃ (n : Nat) (os : OsU), w' = grow (putRow (Value.int .u64) (Sort.ahead w n) blk off (breakPatterns d a b)) os.1 := by
  obtain ⟨L, rfl⟩ : ∃ L, b = a + L := ⟨b - a, by omega⟩
  by_cases h8 : 8 ≤ L
  · exact su_breakPatterns_int_go blk off cap a L d w hH hblk hb hsz h8
  · have hv : breakPatterns d a (a + L) = d := by unfold breakPatterns; simp only [Nat.add_sub_cancel_left]; rw [if_neg h8]
    rw [hv]
    have HST : Hid (w = grow (putRow (Value.int .u64) (Sort.ahead w 0) blk off d) #[]) := by
      show _ = _
      rw [grow_empty, show Sort.ahead w 0 = w from rfl, putRow_self _ _ _ _ _ hH]
    clear hH
    go_enter Try.func200, Try.ntmps200
    go_wp2
    go_end0
    exact ⟨rfl, 0, ⟨#[], okNone⟩, HST.out⟩
end Go.Proofs

