/- Plain facts on a law of this seat; plain Lean, no program in sight. Conditions: the numbers lie in their kinds' ranges where a theorem says so. -/
import Derived.Test.YtloeihhocifnpaaL3
set_option linter.unusedVariables false
set_option linter.unusedSimpArgs false
namespace Go.Sx.A
open Go Go.Sx

theorem words_at {k a b r g s m : Int} (h1 : f17_1 k a b r g s m = true) : f15_15 k a b r g s m = m ∧ f15_16 k a b r g s m = 0 := by
  simp [f15_15, f15_16, h1, cnd_eq]
theorem words_no {k a b r g s m : Int} (h1 : f17_1 k a b r g s m = false) : f15_14 k a b r g s m = 0 ∧ f15_15 k a b r g s m = 0 ∧ f15_16 k a b r g s m = 10 := by
  simp [f15_14, f15_15, f15_16, h1, cnd_eq]
theorem f3_true {k a b r g s m : Int} (ha : 0 ≤ a) (ha2 : a < 18446744073709551616) (hb : -9223372036854775808 ≤ b ∧ b < 9223372036854775808) (hm : 0 ≤ m) (hm2 : m < 18446744073709551616) (hg2 : g < 9223372036854775808) :
    f3_0 k a b r g s m = true := by
  have hR := right_eq (k := k) (r := r) (s := s) ha ha2 hb hm hm2 hg2
  cases hr : f17_1 k a b r g s m with
  | false =>
    have hr2 := hR.symm.trans hr
    obtain ⟨q1, q2, q3⟩ := words_no hr
    simp [f3_0, hr, hr2, q1, q2, q3, cnd_eq]
  | true =>
    have hr2 := hR.symm.trans hr
    obtain ⟨w1, w2⟩ := word_right ha ha2 hr2 hr
    obtain ⟨hk, hb, hrr, hg, hs, hal, hmod⟩ := right_ranges ha ha2 hr2 hr
    obtain ⟨m1, m2⟩ := words_at hr
    obtain ⟨g1, g2, g3, g4, g5, g6⟩ := word_get (k := k.toNat) (b := b.toNat) (r := r.toNat) (g := g.toNat) (s := s.toNat) (q := (a / 32).toNat) (by omega) (by omega) (by omega) (by omega) (by omega) (by omega)
    have c1 : IntKind.i64.wrap ((k.toNat : Nat) : Int) = k := by rw [wrap_i64 (by omega) (by omega)]; omega
    have c2 : IntKind.i64.wrap ((b.toNat : Nat) : Int) = b := by rw [wrap_i64 (by omega) (by omega)]; omega
    have c3 : IntKind.i64.wrap ((r.toNat : Nat) : Int) = r := by rw [wrap_i64 (by omega) (by omega)]; omega
    have c4 : IntKind.i64.wrap ((g.toNat : Nat) : Int) = g := by rw [wrap_i64 (by omega) (by omega)]; omega
    have c5 : IntKind.i64.wrap ((s.toNat : Nat) : Int) = s := by rw [wrap_i64 (by omega) (by omega)]; omega
    have c6 : IntKind.u64.wrap ((((a / 32).toNat : Nat) : Int) * 32) = a := by rw [wrap_u64_id (by omega) (by omega)]; omega
    generalize wordN k.toNat b.toNat r.toNat g.toNat s.toNat (a / 32).toNat = W at *
    simp only [f3_0, hr, hr2, w1, w2, m1, m2, f18_3, f18_4, f18_5, f18_6, f18_7, f18_8, f18_9, f18_10, g1, g2, g3, g4, g5, g6, c1, c2, c3, c4, c5, c6]
    simp [cnd_eq]
theorem get_same {a : Int} (ha : 0 ≤ a) (ha2 : a < 18446744073709551616) {l d : Int} (hf : f62_0 l d = true) (h0 : 0 ≤ l) (h1 : l ≤ 63) (h2 : 1 ≤ d) (h3 : d ≤ 63) (h4 : l + d ≤ 64) : f53_1 l d a = getI a l d := by
  obtain ⟨w, rfl⟩ : ∃ w : Nat, a = w := ⟨a.toNat, by omega⟩
  rw [field_get (by omega) hf h0 h1 h2 h3, getI_eq (by omega) h0 h4]
theorem f4_true {a b : Int} (ha : 0 ≤ a) (ha2 : a < 18446744073709551616) (hb : 0 ≤ b) (hb2 : b < 18446744073709551616) : f4_0 a b = true := by
  have e1 : f53_1 0 4 a = getI a 0 4 := get_same ha ha2 (by decide +kernel) (by omega) (by omega) (by omega) (by omega) (by omega)
  have e2 : f53_1 4 6 a = getI a 4 6 := get_same ha ha2 (by decide +kernel) (by omega) (by omega) (by omega) (by omega) (by omega)
  have e3 : f53_1 10 3 a = getI a 10 3 := get_same ha ha2 (by decide +kernel) (by omega) (by omega) (by omega) (by omega) (by omega)
  have e4 : f53_1 13 6 a = getI a 13 6 := get_same ha ha2 (by decide +kernel) (by omega) (by omega) (by omega) (by omega) (by omega)
  have e5 : f53_1 19 16 a = getI a 19 16 := get_same ha ha2 (by decide +kernel) (by omega) (by omega) (by omega) (by omega) (by omega)
  have e6 : f53_1 35 27 a = getI a 35 27 := get_same ha ha2 (by decide +kernel) (by omega) (by omega) (by omega) (by omega) (by omega)
  have hx := wrap_u64 (getI a 35 27 * 32)
  have hy : ∀ x : Int, -9223372036854775808 ≤ IntKind.i64.wrap x ∧ IntKind.i64.wrap x < 9223372036854775808 := by
    intro x
    simp only [IntKind.wrap, IntKind.bits, IntKind.signed, Bool.true_and]
    simp only [show ((2 : Int) ^ 64) = 18446744073709551616 from rfl, show ((2 : Int) ^ (64 - 1)) = 9223372036854775808 from rfl, decide_eq_true_eq, ge_iff_le]
    split <;> omega
  have hy2 := hy (getI a 4 6)
  have hy4 := hy (getI a 13 6)
  simp only [f4_0, f18_3, f18_4, f18_5, f18_6, f18_7, f18_8, f18_9, f18_10, f20_6, f20_7, f20_8, f20_9, f20_10, f20_11, e1, e2, e3, e4, e5, e6]
  generalize IntKind.i64.wrap (getI a 0 4) = k at *
  generalize IntKind.u64.wrap (getI a 35 27 * 32) = c at *
  generalize IntKind.i64.wrap (getI a 4 6) = d at *
  generalize IntKind.i64.wrap (getI a 10 3) = r at *
  generalize IntKind.i64.wrap (getI a 13 6) = g at *
  generalize IntKind.i64.wrap (getI a 19 16) = s at *
  have hR := right_eq (k := k) (a := c) (b := d) (r := r) (g := g) (s := s) (m := b) (by omega) (by omega) hy2 hb hb2 hy4.2
  cases hr : f17_1 k c d r g s b with
  | false =>
    have hr2 := hR.symm.trans hr
    obtain ⟨q1, q2, q3⟩ := words_no hr
    simp [hr2, q3, cnd_eq]
  | true =>
    have hr2 := hR.symm.trans hr
    obtain ⟨w1, w2⟩ := word_right (by omega) (by omega) hr2 hr
    obtain ⟨m1, m2⟩ := words_at hr
    by_cases hw : f15_14 k c d r g s b = a
    · have hw2 : f19_2 k c d r g s b = a := by rw [w2, ← w1, hw]
      simp [hr2, hw, hw2, m1, m2, cnd_eq]
    · have hw2 : ¬ f19_2 k c d r g s b = a := by rw [w2, ← w1]; exact hw
      simp [hr2, hw, hw2, m2, cnd_eq]
end Go.Sx.A
