/- Plain facts on a law of this seat; plain Lean, no program in sight. Conditions: the numbers lie in their kinds' ranges where a theorem says so. -/
import Derived.Test.YtloeihhocifnpaaK2
import Derived.Test.YtloeihhocifnpaaL8
set_option linter.unusedVariables false
set_option linter.unusedSimpArgs false
namespace Go.Sx.A
open Go Go.Sx

theorem sized_cases {k a b r g s m : Int} (ha : 0 ≤ a) (ha2 : a < 18446744073709551616) (hb : -9223372036854775808 ≤ b ∧ b < 9223372036854775808) (hm : 0 ≤ m) (hm2 : m < 18446744073709551616) (hg2 : g < 9223372036854775808) :
    (f27_2 k a b r g s m = true ∧ f17_1 k a b r g s m = true ∧ f31_0 k a b r g s m = f30_0 k b ∧ 5 ≤ f30_0 k b ∧ f30_0 k b ≤ 32 ∧ f27_1 k a b r g s m = p26 (f30_0 k b).toNat ∧ f32_0 k a b r g s m = a + p26 (f30_0 k b).toNat ∧
      a + p26 (f30_0 k b).toNat ≤ 4294967296 ∧ 0 < p26 (f30_0 k b).toNat) ∨ (f27_2 k a b r g s m = false ∧ f31_0 k a b r g s m = -1) := by
  have hR := right_eq (k := k) (r := r) (s := s) ha ha2 hb hm hm2 hg2
  cases hr : f17_1 k a b r g s m with
  | false =>
    have hr2 := hR.symm.trans hr
    exact .inr ⟨by simp [f27_2, hr2, cnd_eq], by simp [f31_0, hr, cnd_eq]⟩
  | true =>
    have hr2 := hR.symm.trans hr
    obtain ⟨h1, h2, h3⟩ := right_size' hr
    have e1 : f31_0 k a b r g s m = f30_0 k b := by simp [f31_0, hr, h1, h2, cnd_eq]
    rcases h3 with h3 | ⟨h3, h4⟩
    · exact .inr ⟨by simp [f27_2, hr2, h3, cnd_eq], by rw [e1, h3]⟩
    · have hl : f46_1 k a b r g s m = true := by
        cases hh : f46_1 k a b r g s m with
        | true => rfl
        | false => rw [← hr2]; simp [f16_2, hh, cnd_eq]
      have hd : decide (f30_0 k b < 0) = false := by simp; omega
      have hle := p26_le (n := (f30_0 k b).toNat) (m := 32) (by omega) (by omega)
      have h32 : p26 32 = 4294967296 := by decide +kernel
      have hpos := p26_pos (n := (f30_0 k b).toNat) (by omega)
      have hend : a < 4294967296 ∧ a + p26 (f30_0 k b).toNat ≤ 4294967296 := by
        revert hl
        simp only [f46_1, hd, cnd_eq]
        intro hl
        have ha3 : a < 4294967296 := by grind
        have : IntKind.u64.wrap (a + p26 (f30_0 k b).toNat) ≤ 4294967296 := by grind
        rw [wrap_u64_id (by omega) (by omega)] at this
        exact ⟨ha3, this⟩
      have nr : (!f16_2 k a b r g s m) = false := by rw [hr2]; rfl
      refine .inl ⟨by simp only [f27_2, nr, hd, cf], rfl, e1, h3, h4, by simp only [f27_1, nr, hd, cf], ?_, hend.2, hpos⟩
      simp only [f32_0, e1, hd, cf, ones_eq (n := f30_0 k b) (by omega) (by omega)]
      rw [wrap_u64_id (x := a + (p26 (f30_0 k b).toNat - 1)) (by omega) (by omega), wrap_u64_id (by omega) (by omega)]
      omega
theorem p26_inj {n m : Nat} (hn : n ≤ 63) (hm : m ≤ 63) (h : p26 n = p26 m) : n = m := by
  rw [p26_eq hn, p26_eq hm] at h
  exact (Nat.pow_right_inj (by omega)).1 (Int.ofNat.inj h)
theorem f7_true {k a b r g s m k2 a2 b2 r2 g2 s2 m2 : Int} (ha : 0 ≤ a) (ha' : a < 18446744073709551616) (hb : -9223372036854775808 ≤ b ∧ b < 9223372036854775808) (hm : 0 ≤ m) (hm' : m < 18446744073709551616) (hg : g < 9223372036854775808)
    (ha2 : 0 ≤ a2) (ha2' : a2 < 18446744073709551616) (hb2 : -9223372036854775808 ≤ b2 ∧ b2 < 9223372036854775808) (hm2 : 0 ≤ m2) (hm2' : m2 < 18446744073709551616) (hg2 : g2 < 9223372036854775808) :
    f7_0 k a b r g s m k2 a2 b2 r2 g2 s2 m2 = true := by
  rcases sized_cases (k := k) (r := r) (s := s) ha ha' hb hm hm' hg with ⟨c1, c2, c3, c4, c5, c6, c7, c8, c9⟩ | ⟨c1, c2⟩
  · rcases sized_cases (k := k2) (r := r2) (s := s2) ha2 ha2' hb2 hm2 hm2' hg2 with ⟨d1, d2, d3, d4, d5, d6, d7, d8, d9⟩ | ⟨d1, d2⟩
    · have hinj : p26 (f30_0 k b).toNat = p26 (f30_0 k2 b2).toNat ↔ f30_0 k b = f30_0 k2 b2 :=
        ⟨fun h => by have := p26_inj (by omega) (by omega) h; omega, fun h => by rw [h]⟩
      have n1 : decide (f30_0 k b ≥ 0) = true := by simp; omega
      have n2 : decide (f30_0 k2 b2 ≥ 0) = true := by simp; omega
      simp only [f7_0, f28_0, f29_0, c1, c2, c3, c6, c7, d1, d2, d3, d6, d7, n1, n2, ct, cf]
      generalize p26 (f30_0 k b).toNat = p at *
      generalize p26 (f30_0 k2 b2).toNat = p2 at *
      by_cases hle : a ≤ a2
      · rw [wrap_u64_id (x := a2 - a) (by omega) (by omega)]
        by_cases hle2 : a2 - a ≤ p
        · rw [wrap_u64_id (x := p - (a2 - a)) (by omega) (by omega)]
          simp only [cnd_eq]
          grind
        · simp only [cnd_eq]
          grind
      · simp only [cnd_eq]
        grind
    · simp only [f7_0, f28_0, f29_0, c1, c2, c3, c6, c7, d1, d2, cnd_eq]
      grind
  · simp only [f7_0, f28_0, f29_0, c1, c2, cnd_eq]
    grind
end Go.Sx.A
