/- That the law ObjFresh says true; plain Lean, no program in sight. Conditions: the numbers lie in their kinds' ranges where a theorem says so. -/
import Derived.Test.YtloeihhocifnpaaL0
import Derived.Test.YtloeihhocifnpaaL6
set_option linter.unusedVariables false
set_option linter.unusedSimpArgs false
namespace Go.Sx.A
open Go Go.Sx

theorem marked_at (k a c r g s m : Int) : f52_1 k a c r g s m = f52_1 k 0 c r g s m := rfl
/-- What lies within 2^32 bytes, and ends there. -/
theorem lies_at {k a c r g s m : Int} (hs : f57_1 k c = true) (hn0 : 0 ≤ f57_0 k c) (hn1 : f57_0 k c ≤ 32) (ha : 0 ≤ a) (ha2 : a < 18446744073709551616) :
    f51_0 k a c r g s m = (a % p26 (f57_0 k c).toNat == 0 && decide (a < 4294967296)) := by
  have hp := p26_eq (n := (f57_0 k c).toNat) (by omega)
  have hle := p26_le (n := (f57_0 k c).toNat) (m := 32) (by omega) (by omega)
  have h32 : p26 32 = 4294967296 := by decide +kernel
  have hpos := p26_pos (n := (f57_0 k c).toNat) (by omega)
  have h1 : (!f57_1 k c) = false := by rw [hs]; rfl
  have h2 : decide (f57_0 k c < 0) = false := by simp; omega
  have hdvd : p26 (f57_0 k c).toNat ∣ 4294967296 := by
    rw [hp]
    have : (4294967296 : Int) = ((2 ^ 32 : Nat) : Int) := by decide
    rw [this, Int.natCast_dvd_natCast]
    exact Nat.pow_dvd_pow 2 (by omega)
  simp only [f51_0, h1, h2, cnd_eq, aligned_eq ha ha2 hn0 (by omega), ones_eq hn0 (by omega)]
  generalize p26 (f57_0 k c).toNat = q at *
  by_cases hal : a % q = 0
  · by_cases hlt : a < 4294967296
    · have hd : q ∣ 4294967296 - a := Int.dvd_sub hdvd (Int.dvd_of_emod_eq_zero hal)
      have hle2 : q ≤ 4294967296 - a := Int.le_of_dvd (by omega) hd
      rw [wrap_u64_id (x := q - 1 + 1) (by omega) (by omega), wrap_u64_id (x := 4294967296 - a) (by omega) (by omega)]
      simp [hal, hlt]
      omega
    · simp [hal, hlt]
  · simp [hal]
theorem right_at {k a c r : Int} (hs : f57_1 k c = true) (hn0 : 0 ≤ f57_0 k c) (hn1 : f57_0 k c ≤ 32) (hr : f17_1 k 0 c r 0 0 0 = true) (ha : 0 ≤ a) (ha2 : a < 18446744073709551616) :
    f17_1 k a c r 0 0 0 = (a % p26 (f57_0 k c).toNat == 0 && decide (a < 4294967296)) := by
  rw [← lies_at (r := r) (g := 0) (s := 0) (m := 0) hs hn0 hn1 ha ha2]
  simp only [f17_1, cnd_eq, marked_at k a] at hr ⊢
  generalize f51_0 k a c r 0 0 0 = x at *
  generalize f52_1 k 0 c r 0 0 0 = y at *
  cases x
  · simp
  · grind

/-- Kinds that may be made: the bits and the rights that they get. -/
def Mk (k b c r n : Int) : Prop := f68_0 k b = k ∧ f68_1 k b = 0 ∧ f68_2 k b = c ∧ f68_3 k b = r ∧ f68_4 k b = true ∧ f17_1 k 0 c r 0 0 0 = true ∧ f57_1 k c = true ∧ f57_0 k c = n ∧ 5 ≤ n ∧ n ≤ 32 ∧
  f25_0 k b = n ∧ c = (if k = 2 then b else n) ∧ r = (if k = 9 then 3 else if k = 3 then 7 else 0)
theorem mk (k b : Int) : (f25_0 k b = -1 ∧ f56_4 k b = 20) ∨ (f25_0 k b = -2 ∧ f56_4 k b = 11) ∨ ∃ c r n, Mk k b c r n := by
  by_cases k1 : k = 1
  · subst k1
    by_cases hb : 5 ≤ b ∧ b ≤ 32
    · obtain ⟨n, rfl⟩ : ∃ n : Nat, b = n := ⟨b.toNat, by omega⟩
      have h25 : f25_0 1 (n : Int) = n := by simp [f25_0, cnd_eq]; omega
      exact .inr (.inr ⟨n, 0, n, rfl, rfl, rfl, rfl, rfl, rt1 n (by omega) (by omega), by simp [f57_1, cnd_eq]; omega, rfl, by omega, by omega, h25, rfl, rfl⟩)
    · rcases kn 1 b with h | h | ⟨h, _⟩
      · exact .inl h
      · exact .inr (.inl h)
      · exfalso; revert h; simp [f25_0, cnd_eq]; omega
  by_cases k2 : k = 2
  · subst k2
    by_cases hb : 1 ≤ b ∧ b ≤ 12
    · obtain ⟨n, rfl⟩ : ∃ n : Nat, b = n := ⟨b.toNat, by omega⟩
      have hw : IntKind.i64.wrap ((n : Int) + 5) = n + 5 := wrap_i64 (by omega) (by omega)
      have h25 : f25_0 2 (n : Int) = n + 5 := by simp [f25_0, cnd_eq, hw]; omega
      exact .inr (.inr ⟨n, 0, n + 5, rfl, rfl, rfl, rfl, rfl, rt2 n (by omega) (by omega), by simp [f57_1, cnd_eq]; omega, by simp [f57_0, cnd_eq, hw], by omega, by omega, h25, rfl, rfl⟩)
    · rcases kn 2 b with h | h | ⟨h, _⟩
      · exact .inl h
      · exact .inr (.inl h)
      · exfalso; revert h; simp [f25_0, cnd_eq]; omega
  by_cases k3 : k = 3
  · subst k3
    by_cases hb : b = 12 ∨ b = 21 ∨ b = 30
    · rcases hb with rfl | rfl | rfl
      · exact .inr (.inr ⟨12, 7, 12, rfl, rfl, rfl, rfl, rfl, rt3a, by decide +kernel, by decide +kernel, by omega, by omega, by decide +kernel, rfl, rfl⟩)
      · exact .inr (.inr ⟨21, 7, 21, rfl, rfl, rfl, rfl, rfl, rt3b, by decide +kernel, by decide +kernel, by omega, by omega, by decide +kernel, rfl, rfl⟩)
      · exact .inr (.inr ⟨30, 7, 30, rfl, rfl, rfl, rfl, rfl, rt3c, by decide +kernel, by decide +kernel, by omega, by omega, by decide +kernel, rfl, rfl⟩)
    · rcases kn 3 b with h | h | ⟨h, _⟩
      · exact .inl h
      · exact .inr (.inl h)
      · exfalso; revert h; simp [f25_0, cnd_eq]; omega
  have small : ∀ c r n, k ≠ 2 → k = 4 ∨ k = 5 ∨ k = 8 ∨ k = 9 → Mk k 0 c r n → (f25_0 k b = -1 ∧ f56_4 k b = 20) ∨ (f25_0 k b = -2 ∧ f56_4 k b = 11) ∨ ∃ c r n, Mk k b c r n := by
    intro c r n h2 hk hm
    by_cases hb : b = 0
    · subst hb; exact .inr (.inr ⟨c, r, n, hm⟩)
    · rcases kn k b with h | h | ⟨h, _⟩
      · exact .inl h
      · exact .inr (.inl h)
      · exfalso
        revert h
        rcases hk with rfl | rfl | rfl | rfl <;> simp [f25_0, cnd_eq, hb]
  by_cases k4 : k = 4
  · subst k4; exact small 12 0 12 (by omega) (by omega) ⟨rfl, rfl, rfl, rfl, rfl, rt4, by decide +kernel, by decide +kernel, by omega, by omega, by decide +kernel, rfl, rfl⟩
  by_cases k5 : k = 5
  · subst k5; exact small 12 0 12 (by omega) (by omega) ⟨rfl, rfl, rfl, rfl, rfl, rt5, by decide +kernel, by decide +kernel, by omega, by omega, by decide +kernel, rfl, rfl⟩
  by_cases k8 : k = 8
  · subst k8; exact small 7 0 7 (by omega) (by omega) ⟨rfl, rfl, rfl, rfl, rfl, rt8, by decide +kernel, by decide +kernel, by omega, by omega, by decide +kernel, rfl, rfl⟩
  by_cases k9 : k = 9
  · subst k9; exact small 5 3 5 (by omega) (by omega) ⟨rfl, rfl, rfl, rfl, rfl, rt9, by decide +kernel, by decide +kernel, by omega, by omega, by decide +kernel, rfl, rfl⟩
  refine .inl ⟨?_, kn_none ?_⟩
  · simp [f25_0, cnd_eq, k1, k2, k3, k4, k5, k8, k9]
  · simp [f68_4, cnd_eq, k1, k2, k3, k4, k5, k8, k9]

theorem f10_true (k b a : Int) (ha : 0 ≤ a) (ha2 : a < 18446744073709551616) : f10_0 k b a = true := by
  rcases mk k b with ⟨h1, h2⟩ | ⟨h1, h2⟩ | ⟨c, r, n, h0, h1, h2, h3, h4, hr, hs, hn, hn5, hn32, h25, hc, hrr⟩
  · simp [f10_0, f37_0, f37_1, f37_2, f37_3, f37_4, f37_5, f38_2, f38_3, f38_4, f38_5, f38_6, f38_7, f39_0, f39_1, h1, h2, cnd_eq]
  · simp [f10_0, f37_0, f37_1, f37_2, f37_3, f37_4, f37_5, f38_2, f38_3, f38_4, f38_5, f38_6, f38_7, f39_0, f39_1, h1, h2, cnd_eq]
  · obtain ⟨q1, q2⟩ := kn_right h0 h1 h2 h3 h4 hr hs
    have e0 : f56_0 k b = k := by simp [f56_0, h0, cnd_eq]
    have e1 : f56_1 k b = 0 := by simp [f56_1, h1, cnd_eq]
    have e2 : f56_2 k b = c := by simp [f56_2, h2, cnd_eq]
    have e3 : f56_3 k b = r := by simp [f56_3, h3, cnd_eq]
    rw [e0, e1, e2, e3, hn] at q2
    have hra := right_at hs (by omega) (by omega) hr ha ha2
    have hal := aligned_eq (n := n) ha ha2 (by omega) (by omega)
    have hpos := p26_pos (n := n.toNat) (by omega)
    rw [hn] at hra
    have htm : a.tmod (p26 n.toNat) = a % p26 n.toNat := Int.tmod_eq_emod_of_nonneg ha
    by_cases hA : a % p26 n.toNat = 0
    · by_cases hB : a < 4294967296
      · have hR : f17_1 k a c r 0 0 0 = true := by rw [hra]; simp [hA, hB]
        have hS : f31_0 k a c r 0 0 0 = n := by simp [f31_0, hs, hR, hn, cnd_eq]
        have hB2 : ¬ 4294967296 ≤ a := by omega
        have g0 : f37_0 k b a = k := by simp [f37_0, q1, e0, e1, e2, e3, q2, hal, hA, hR, cnd_eq]
        have g1 : f37_1 k b a = a := by simp [f37_1, q1, e0, e1, e2, e3, q2, hal, hA, hR, cnd_eq]
        have g2 : f37_2 k b a = c := by simp [f37_2, q1, e0, e1, e2, e3, q2, hal, hA, hR, cnd_eq]
        have g3 : f37_3 k b a = r := by simp [f37_3, q1, e0, e1, e2, e3, q2, hal, hA, hR, cnd_eq]
        have g4 : f37_4 k b a = 0 := by simp [f37_4, e1, cnd_eq]
        have g5 : f37_5 k b a = 0 := by simp [f37_5, q1, e0, e1, e2, e3, q2, hal, hA, hR, cnd_eq]
        have n1 : ¬ n = -1 := by omega
        have n2 : ¬ n = -2 := by omega
        have r2 : f38_2 k b a = k := by simp [f38_2, h25, n1, n2, htm, hA, hB2, cnd_eq]
        have r3 : f38_3 k b a = a := by simp [f38_3, h25, n1, n2, htm, hA, hB2, cnd_eq]
        have r4 : f38_4 k b a = c := by simp [f38_4, h25, n1, n2, htm, hA, hB2, cnd_eq, hc]
        have r5 : f38_5 k b a = r := by simp [f38_5, h25, n1, n2, htm, hA, hB2, cnd_eq, hrr]
        have r6 : f38_6 k b a = 0 := by simp [f38_6, cnd_eq]
        have r7 : f38_7 k b a = 0 := by simp [f38_7, h25, n1, n2, htm, hA, hB2, cnd_eq]
        have t0 : f39_0 k b = n := by simp [f39_0, q1, e0, e1, e2, e3, q2, cnd_eq]
        have t1 : f39_1 k b = true := by simp [f39_1, q1, cnd_eq]
        have hpos' : decide (n > 0) = true := by simp; omega
        have hrk : (k = 3 ∨ k = 9) ∨ r = 0 := by
          rw [hrr]
          by_cases k9 : k = 9
          · exact .inl (.inr k9)
          · by_cases k3 : k = 3
            · exact .inl (.inl k3)
            · right; simp [k9, k3]
        simp only [f10_0, g0, g1, g2, g3, g4, g5, r2, r3, r4, r5, r6, r7, t0, t1, h25, hpos', hR, hS, cnd_eq]
        rcases hrk with (rfl | rfl) | rfl <;> simp
      · have hR : f17_1 k a c r 0 0 0 = false := by rw [hra]; simp [hA, hB]
        have hB2 : 4294967296 ≤ a := by omega
        have n1 : ¬ n = -1 := by omega
        have n2 : ¬ n = -2 := by omega
        have hpos' : 0 < n := by omega
        simp [f10_0, f37_0, f37_1, f37_2, f37_3, f37_4, f37_5, f38_2, f38_3, f38_4, f38_5, f38_6, f38_7, f39_0, f39_1, q1, e0, e1, e2, e3, q2, hal, hA, hR, h25, n1, n2, htm, hB2, hpos', cnd_eq]
    · have n1 : ¬ n = -1 := by omega
      have n2 : ¬ n = -2 := by omega
      have hpos' : 0 < n := by omega
      simp [f10_0, f37_0, f37_1, f37_2, f37_3, f37_4, f37_5, f38_2, f38_3, f38_4, f38_5, f38_6, f38_7, f39_0, f39_1, q1, e0, e1, e2, e3, q2, hal, hA, h25, n1, n2, htm, hpos', cnd_eq]
end Go.Sx.A
