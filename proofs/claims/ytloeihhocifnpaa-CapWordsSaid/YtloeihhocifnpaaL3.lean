/- Plain facts on a law of this seat; plain Lean, no program in sight. Conditions: the numbers lie in their kinds' ranges where a theorem says so. -/
import Derived.Test.YtloeihhocifnpaaLW
set_option linter.unusedVariables false
set_option linter.unusedSimpArgs false
namespace Go.Sx.A
open Go Go.Sx

/-- The numbers of a right one, in their fields. -/
theorem right_ranges {k a b r g s m : Int} (ha : 0 ≤ a) (ha2 : a < 18446744073709551616) (h : f16_2 k a b r g s m = true) (h1 : f17_1 k a b r g s m = true) :
    (0 ≤ k ∧ k ≤ 10) ∧ (0 ≤ b ∧ b ≤ 32) ∧ (0 ≤ r ∧ r ≤ 7) ∧ (0 ≤ g ∧ g ≤ 63) ∧ (0 ≤ s ∧ s ≤ 4095) ∧ a < 4294967296 ∧ a % 32 = 0 := by
  obtain ⟨q1, q2, q3⟩ := right_size' h1
  have hk : 0 ≤ k ∧ k ≤ 10 := by revert q1; simp only [f57_1, f59_0, f59_1, cnd_eq]; grind (splits := 40)
  have hb : 0 ≤ b ∧ b ≤ 32 := by revert q1; simp only [f57_1, f59_0, f59_1, cnd_eq]; grind (splits := 40)
  have hl : f46_1 k a b r g s m = true := by
    cases hh : f46_1 k a b r g s m with
    | true => rfl
    | false => rw [← h]; simp [f16_2, hh, cnd_eq]
  have hr : 0 ≤ r ∧ r ≤ 7 := by revert h; simp only [f16_2, f47_0, hl, cnd_eq]; grind (splits := 40)
  have hs : 0 ≤ s ∧ s ≤ 4095 := by revert h; simp only [f16_2, f47_0, hl, cnd_eq]; grind (splits := 40)
  have hg0 : 0 ≤ g := by revert h1; simp only [f17_1, cnd_eq]; grind (splits := 40)
  have hm : f48_5 k a b r g s m = true := by revert h; simp only [f16_2, hl, cnd_eq]; grind (splits := 40)
  have hg : g ≤ 63 := by revert hm; simp only [f48_5, cnd_eq]; grind (splits := 40)
  have hal : a < 4294967296 ∧ a % 32 = 0 := by
    rcases q3 with q3 | ⟨q3, q4⟩
    · have : a = 0 := by revert hl; simp [f46_1, q3, cnd_eq]
      omega
    · have hd : decide (f30_0 k b < 0) = false := by simp; omega
      have htm : a.tmod (p26 (f30_0 k b).toNat) = a % p26 (f30_0 k b).toNat := Int.tmod_eq_emod_of_nonneg ha
      have hlt : a < 4294967296 := by revert hl; simp only [f46_1, hd, cnd_eq]; grind
      have hmod : a % p26 (f30_0 k b).toNat = 0 := by revert hl; simp only [f46_1, hd, htm, cnd_eq]; grind
      have hdvd : (32 : Int) ∣ p26 (f30_0 k b).toNat := by
        rw [p26_eq (by omega)]
        have : (32 : Int) = ((2 ^ 5 : Nat) : Int) := by decide
        rw [this, Int.natCast_dvd_natCast]
        exact Nat.pow_dvd_pow 2 (by omega)
      have := Int.dvd_trans hdvd (Int.dvd_of_emod_eq_zero hmod)
      exact ⟨hlt, by omega⟩
  exact ⟨hk, hb, hr, ⟨hg0, hg⟩, hs, hal⟩
def wordN (k b r g s q : Nat) : Nat := k + b * 16 + r * 1024 + g * 8192 + s * 524288 + q * 34359738368
theorem word_put {k b r g s q : Nat} (hk : k < 16) (hb : b < 64) (hr : r < 8) (hg : g < 64) (hs : s < 65536) (hq : q < 134217728) :
    f45_1 35 27 (f45_1 19 16 (f45_1 13 6 (f45_1 10 3 (f45_1 4 6 (f45_1 0 4 0 k) b) r) g) s) q = wordN k b r g s q := by
  have p4 : (2 : Nat) ^ (Int.toNat 4) = 16 := by decide
  have p6 : (2 : Nat) ^ (Int.toNat 6) = 64 := by decide
  have p10 : (2 : Nat) ^ (Int.toNat 10) = 1024 := by decide
  have p3 : (2 : Nat) ^ (Int.toNat 3) = 8 := by decide
  have p13 : (2 : Nat) ^ (Int.toNat 13) = 8192 := by decide
  have p19 : (2 : Nat) ^ (Int.toNat 19) = 524288 := by decide
  have p16 : (2 : Nat) ^ (Int.toNat 16) = 65536 := by decide
  have p35 : (2 : Nat) ^ (Int.toNat 35) = 34359738368 := by decide
  have p27 : (2 : Nat) ^ (Int.toNat 27) = 134217728 := by decide
  have p0 : (2 : Nat) ^ (Int.toNat 0) = 1 := by decide
  have e0 : f45_1 0 4 0 k = ((0 + k * 2 ^ (Int.toNat 0) : Nat) : Int) := field_put (w := 0) (by decide +kernel) (by omega) (by omega) (by omega) (by omega) (by omega) (by rw [p0]; omega) (by rw [p4]; omega)
  rw [e0, field_put (l := 4) (d := 6) (by decide +kernel) (by omega) (by omega) (by omega) (by omega) (by omega) (by rw [p0, p4]; omega) (by rw [p6]; omega)]
  rw [field_put (l := 10) (d := 3) (by decide +kernel) (by omega) (by omega) (by omega) (by omega) (by omega) (by rw [p0, p4, p10]; omega) (by rw [p3]; omega)]
  rw [field_put (l := 13) (d := 6) (by decide +kernel) (by omega) (by omega) (by omega) (by omega) (by omega) (by rw [p0, p4, p10, p13]; omega) (by rw [p6]; omega)]
  rw [field_put (l := 19) (d := 16) (by decide +kernel) (by omega) (by omega) (by omega) (by omega) (by omega) (by rw [p0, p4, p10, p13, p19]; omega) (by rw [p16]; omega)]
  rw [field_put (l := 35) (d := 27) (by decide +kernel) (by omega) (by omega) (by omega) (by omega) (by omega) (by rw [p0, p4, p10, p13, p19, p35]; omega) (by rw [p27]; omega)]
  rw [p0, p4, p10, p13, p19, p35]
  unfold wordN
  congr 1
  omega
theorem word_get {k b r g s q : Nat} (hk : k < 16) (hb : b < 64) (hr : r < 8) (hg : g < 64) (hs : s < 65536) (hq : q < 134217728) :
    f53_1 0 4 (wordN k b r g s q) = k ∧ f53_1 4 6 (wordN k b r g s q) = b ∧ f53_1 10 3 (wordN k b r g s q) = r ∧ f53_1 13 6 (wordN k b r g s q) = g ∧ f53_1 19 16 (wordN k b r g s q) = s ∧ f53_1 35 27 (wordN k b r g s q) = q := by
  have p4 : (2 : Nat) ^ (Int.toNat 4) = 16 := by decide
  have p6 : (2 : Nat) ^ (Int.toNat 6) = 64 := by decide
  have p10 : (2 : Nat) ^ (Int.toNat 10) = 1024 := by decide
  have p3 : (2 : Nat) ^ (Int.toNat 3) = 8 := by decide
  have p13 : (2 : Nat) ^ (Int.toNat 13) = 8192 := by decide
  have p19 : (2 : Nat) ^ (Int.toNat 19) = 524288 := by decide
  have p16 : (2 : Nat) ^ (Int.toNat 16) = 65536 := by decide
  have p35 : (2 : Nat) ^ (Int.toNat 35) = 34359738368 := by decide
  have p27 : (2 : Nat) ^ (Int.toNat 27) = 134217728 := by decide
  have p0 : (2 : Nat) ^ (Int.toNat 0) = 1 := by decide
  have hw : wordN k b r g s q < 18446744073709551616 := by unfold wordN; omega
  refine ⟨?_, ?_, ?_, ?_, ?_, ?_⟩
  · rw [field_get hw (by decide +kernel) (by omega) (by omega) (by omega) (by omega), p0, p4]; unfold wordN; omega
  · rw [field_get hw (by decide +kernel) (by omega) (by omega) (by omega) (by omega), p4, p6]; unfold wordN; omega
  · rw [field_get hw (by decide +kernel) (by omega) (by omega) (by omega) (by omega), p10, p3]; unfold wordN; omega
  · rw [field_get hw (by decide +kernel) (by omega) (by omega) (by omega) (by omega), p13, p6]; unfold wordN; omega
  · rw [field_get hw (by decide +kernel) (by omega) (by omega) (by omega) (by omega), p19, p16]; unfold wordN; omega
  · rw [field_get hw (by decide +kernel) (by omega) (by omega) (by omega) (by omega), p35, p27]; unfold wordN; omega
/-- The first word of a right one: the program's and the document's. -/
theorem word_right {k a b r g s m : Int} (ha : 0 ≤ a) (ha2 : a < 18446744073709551616) (h : f16_2 k a b r g s m = true) (h1 : f17_1 k a b r g s m = true) :
    f15_14 k a b r g s m = wordN k.toNat b.toNat r.toNat g.toNat s.toNat (a / 32).toNat ∧ f19_2 k a b r g s m = wordN k.toNat b.toNat r.toNat g.toNat s.toNat (a / 32).toNat := by
  obtain ⟨hk, hb, hr, hg, hs, hal, hmod⟩ := right_ranges ha ha2 h h1
  have hn : (!f17_1 k a b r g s m) = false := by rw [h1]; rfl
  have hq : a.fdiv 32 = a / 32 := Int.fdiv_eq_ediv_of_nonneg a (by omega)
  have ht : a.tdiv 32 = a / 32 := Int.tdiv_eq_ediv_of_nonneg ha
  obtain ⟨q, hq2⟩ : ∃ q : Nat, a / 32 = q := ⟨(a / 32).toNat, by omega⟩
  have hql : q < 134217728 := by omega
  simp only [f15_14, f19_2, hn, cf, hq, ht, hq2]
  clear h h1 hn hq ht hq2 hal hmod ha ha2
  obtain ⟨k, rfl⟩ : ∃ n : Nat, k = n := ⟨k.toNat, by omega⟩
  obtain ⟨b, rfl⟩ : ∃ n : Nat, b = n := ⟨b.toNat, by omega⟩
  obtain ⟨r, rfl⟩ : ∃ n : Nat, r = n := ⟨r.toNat, by omega⟩
  obtain ⟨g, rfl⟩ : ∃ n : Nat, g = n := ⟨g.toNat, by omega⟩
  obtain ⟨s, rfl⟩ : ∃ n : Nat, s = n := ⟨s.toNat, by omega⟩
  simp only [Int.toNat_natCast]
  rw [wrap_u64_id (x := (k : Int)) (by omega) (by omega), wrap_u64_id (x := (b : Int)) (by omega) (by omega), wrap_u64_id (x := (r : Int)) (by omega) (by omega), wrap_u64_id (x := (g : Int)) (by omega) (by omega),
    wrap_u64_id (x := (s : Int)) (by omega) (by omega), wrap_u64_id (x := (q : Int)) (by omega) (by omega)]
  constructor
  · exact word_put (by omega) (by omega) (by omega) (by omega) (by omega) (by omega)
  · rw [wrap_u64_id (x := (b : Int) * 16) (by omega) (by omega), wrap_u64_id (x := (k : Int) + b * 16) (by omega) (by omega)]
    rw [wrap_u64_id (x := (r : Int) * 1024) (by omega) (by omega), wrap_u64_id (x := (k : Int) + b * 16 + r * 1024) (by omega) (by omega)]
    rw [wrap_u64_id (x := (g : Int) * 8192) (by omega) (by omega), wrap_u64_id (x := (k : Int) + b * 16 + r * 1024 + g * 8192) (by omega) (by omega)]
    rw [wrap_u64_id (x := (s : Int) * 524288) (by omega) (by omega), wrap_u64_id (x := (k : Int) + b * 16 + r * 1024 + g * 8192 + s * 524288) (by omega) (by omega)]
    rw [wrap_u64_id (x := (q : Int) * 34359738368) (by omega) (by omega), wrap_u64_id (x := (k : Int) + b * 16 + r * 1024 + g * 8192 + s * 524288 + q * 34359738368) (by omega) (by omega)]
    unfold wordN
    omega
end Go.Sx.A
