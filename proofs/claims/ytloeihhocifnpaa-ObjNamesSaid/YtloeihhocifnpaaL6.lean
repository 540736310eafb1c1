/- That the law ObjBytes says true; plain Lean, no program in sight. Conditions: the numbers lie in their kinds' ranges where a theorem says so. -/
import Derived.Test.YtloeihhocifnpaaL0
set_option linter.unusedVariables false
set_option linter.unusedSimpArgs false
namespace Go.Sx.A
open Go Go.Sx

theorem right_size {k a b r g s m : Int} (h : f57_1 k b = false) : f17_1 k a b r g s m = false := by
  have h1 : f51_0 k a b r g s m = false := by
    simp only [f51_0, h, cnd_eq]
    grind
  simp only [f17_1, h1, cnd_eq]
  grind
theorem rt1 : ∀ n : Nat, n < 33 → 5 ≤ n → f17_1 1 0 n 0 0 0 0 = true := by decide +kernel
theorem rt2 : ∀ n : Nat, n < 13 → 1 ≤ n → f17_1 2 0 n 0 0 0 0 = true := by decide +kernel
theorem rt3a : f17_1 3 0 12 7 0 0 0 = true := by decide +kernel
theorem rt3b : f17_1 3 0 21 7 0 0 0 = true := by decide +kernel
theorem rt3c : f17_1 3 0 30 7 0 0 0 = true := by decide +kernel
theorem rt4 : f17_1 4 0 12 0 0 0 0 = true := by decide +kernel
theorem rt5 : f17_1 5 0 12 0 0 0 0 = true := by decide +kernel
theorem rt8 : f17_1 8 0 7 0 0 0 0 = true := by decide +kernel
theorem rt9 : f17_1 9 0 5 3 0 0 0 = true := by decide +kernel

/-- What 'known' says of a made one that is right. -/
theorem kn_right {k b c r : Int} (h0 : f68_0 k b = k) (h1 : f68_1 k b = 0) (h2 : f68_2 k b = c) (h3 : f68_3 k b = r) (h4 : f68_4 k b = true) (hr : f17_1 k 0 c r 0 0 0 = true) (hs : f57_1 k c = true) :
    f56_4 k b = 0 ∧ f31_0 (f56_0 k b) (f56_1 k b) (f56_2 k b) (f56_3 k b) (f56_1 k b) (f56_1 k b) (f56_1 k b) = f57_0 k c := by
  constructor
  · simp [f56_4, h0, h1, h2, h3, h4, hr, cnd_eq]
  · simp [f31_0, f56_0, f56_1, f56_2, f56_3, h0, h1, h2, h3, h4, hr, hs, cnd_eq]
theorem kn_wrong {k b c r : Int} (h0 : f68_0 k b = k) (h1 : f68_1 k b = 0) (h2 : f68_2 k b = c) (h3 : f68_3 k b = r) (h4 : f68_4 k b = true) (hs : f57_1 k c = false) : f56_4 k b = 11 := by
  simp [f56_4, h0, h1, h2, h3, h4, right_size hs, cnd_eq]
theorem kn_none {k b : Int} (h4 : f68_4 k b = false) : f56_4 k b = 20 := by
  simp [f56_4, h4, cnd_eq]
def Kn (k b : Int) : Prop := (f25_0 k b = -1 ∧ f56_4 k b = 20) ∨ (f25_0 k b = -2 ∧ f56_4 k b = 11) ∨
  (0 < f25_0 k b ∧ f56_4 k b = 0 ∧ f31_0 (f56_0 k b) (f56_1 k b) (f56_2 k b) (f56_3 k b) (f56_1 k b) (f56_1 k b) (f56_1 k b) = f25_0 k b)
theorem kn (k b : Int) : Kn k b := by
  by_cases k1 : k = 1
  · subst k1
    by_cases hb : 5 ≤ b ∧ b ≤ 32
    · obtain ⟨n, rfl⟩ : ∃ n : Nat, b = n := ⟨b.toNat, by omega⟩
      have h25 : f25_0 1 (n : Int) = n := by simp [f25_0, cnd_eq]; omega
      obtain ⟨q1, q2⟩ := kn_right (k := 1) (b := n) (c := n) (r := 0) rfl rfl rfl rfl rfl (rt1 n (by omega) (by omega)) (by simp [f57_1, cnd_eq]; omega)
      exact .inr (.inr ⟨by omega, q1, by rw [q2, h25]; rfl⟩)
    · exact .inr (.inl ⟨by simp [f25_0, cnd_eq]; omega, kn_wrong (k := 1) (c := b) (r := 0) rfl rfl rfl rfl rfl (by simp [f57_1, cnd_eq]; omega)⟩)
  by_cases k2 : k = 2
  · subst k2
    by_cases hb : 1 ≤ b ∧ b ≤ 12
    · obtain ⟨n, rfl⟩ : ∃ n : Nat, b = n := ⟨b.toNat, by omega⟩
      have hw : IntKind.i64.wrap ((n : Int) + 5) = n + 5 := wrap_i64 (by omega) (by omega)
      have h25 : f25_0 2 (n : Int) = n + 5 := by simp [f25_0, cnd_eq, hw]; omega
      obtain ⟨q1, q2⟩ := kn_right (k := 2) (b := n) (c := n) (r := 0) rfl rfl rfl rfl rfl (rt2 n (by omega) (by omega)) (by simp [f57_1, cnd_eq]; omega)
      exact .inr (.inr ⟨by omega, q1, by rw [q2, h25]; simp [f57_0, cnd_eq, hw]⟩)
    · exact .inr (.inl ⟨by simp [f25_0, cnd_eq]; omega, kn_wrong (k := 2) (c := b) (r := 0) rfl rfl rfl rfl rfl (by simp [f57_1, cnd_eq]; omega)⟩)
  by_cases k3 : k = 3
  · subst k3
    by_cases hb : b = 12 ∨ b = 21 ∨ b = 30
    · rcases hb with rfl | rfl | rfl
      · obtain ⟨q1, q2⟩ := kn_right (k := 3) (b := 12) (c := 12) (r := 7) rfl rfl rfl rfl rfl rt3a (by decide +kernel)
        exact .inr (.inr ⟨by decide +kernel, q1, q2.trans (by decide +kernel)⟩)
      · obtain ⟨q1, q2⟩ := kn_right (k := 3) (b := 21) (c := 21) (r := 7) rfl rfl rfl rfl rfl rt3b (by decide +kernel)
        exact .inr (.inr ⟨by decide +kernel, q1, q2.trans (by decide +kernel)⟩)
      · obtain ⟨q1, q2⟩ := kn_right (k := 3) (b := 30) (c := 30) (r := 7) rfl rfl rfl rfl rfl rt3c (by decide +kernel)
        exact .inr (.inr ⟨by decide +kernel, q1, q2.trans (by decide +kernel)⟩)
    · refine .inr (.inl ⟨?_, kn_wrong (k := 3) (c := b) (r := 7) rfl rfl rfl rfl rfl ?_⟩)
      · simp [f25_0, cnd_eq]; omega
      · simp only [f57_1, f59_0, f59_1, cnd_eq]; grind
  by_cases k4 : k = 4
  · subst k4
    by_cases hb : b = 0
    · subst hb
      obtain ⟨q1, q2⟩ := kn_right (k := 4) (b := 0) (c := 12) (r := 0) rfl rfl rfl rfl rfl rt4 (by decide +kernel)
      exact .inr (.inr ⟨by decide +kernel, q1, q2.trans (by decide +kernel)⟩)
    · exact .inr (.inl ⟨by simp [f25_0, cnd_eq, hb], kn_wrong (k := 4) (c := -1) (r := 0) (by simp [f68_0, cnd_eq]) (by simp [f68_1, cnd_eq]) (by simp [f68_2, cnd_eq, hb]) (by simp [f68_3, cnd_eq]) rfl (by decide +kernel)⟩)
  by_cases k5 : k = 5
  · subst k5
    by_cases hb : b = 0
    · subst hb
      obtain ⟨q1, q2⟩ := kn_right (k := 5) (b := 0) (c := 12) (r := 0) rfl rfl rfl rfl rfl rt5 (by decide +kernel)
      exact .inr (.inr ⟨by decide +kernel, q1, q2.trans (by decide +kernel)⟩)
    · exact .inr (.inl ⟨by simp [f25_0, cnd_eq, hb], kn_wrong (k := 5) (c := -1) (r := 0) (by simp [f68_0, cnd_eq]) (by simp [f68_1, cnd_eq]) (by simp [f68_2, cnd_eq, hb]) (by simp [f68_3, cnd_eq]) rfl (by decide +kernel)⟩)
  by_cases k8 : k = 8
  · subst k8
    by_cases hb : b = 0
    · subst hb
      obtain ⟨q1, q2⟩ := kn_right (k := 8) (b := 0) (c := 7) (r := 0) rfl rfl rfl rfl rfl rt8 (by decide +kernel)
      exact .inr (.inr ⟨by decide +kernel, q1, q2.trans (by decide +kernel)⟩)
    · exact .inr (.inl ⟨by simp [f25_0, cnd_eq, hb], kn_wrong (k := 8) (c := -1) (r := 0) (by simp [f68_0, cnd_eq]) (by simp [f68_1, cnd_eq]) (by simp [f68_2, cnd_eq, hb]) (by simp [f68_3, cnd_eq]) rfl (by decide +kernel)⟩)
  by_cases k9 : k = 9
  · subst k9
    by_cases hb : b = 0
    · subst hb
      obtain ⟨q1, q2⟩ := kn_right (k := 9) (b := 0) (c := 5) (r := 3) rfl rfl rfl rfl rfl rt9 (by decide +kernel)
      exact .inr (.inr ⟨by decide +kernel, q1, q2.trans (by decide +kernel)⟩)
    · exact .inr (.inl ⟨by simp [f25_0, cnd_eq, hb], kn_wrong (k := 9) (c := -1) (r := 3) (by simp [f68_0, cnd_eq]) (by simp [f68_1, cnd_eq]) (by simp [f68_2, cnd_eq, hb]) (by simp [f68_3, cnd_eq]) rfl (by decide +kernel)⟩)
  refine .inl ⟨?_, kn_none ?_⟩
  · simp [f25_0, cnd_eq, k1, k2, k3, k4, k5, k8, k9]
  · simp [f68_4, cnd_eq, k1, k2, k3, k4, k5, k8, k9]

theorem f6_true (k b n : Int) : f23_0 ∧ f6_0 k b n ∧ f6_1 k b n ∧ f6_2 k b n = true := by
  have hneed : ∀ k b n, f24_0 k b n := by
    intro k b n
    unfold f24_0
    intro h1 h2
    rcases kn k b with ⟨_, h⟩ | ⟨_, h⟩ | ⟨h, _, h'⟩
    · rw [h] at h1; cases h1
    · rw [h] at h1; cases h1
    · rw [h']; omega
  have hb := b25 k b
  refine ⟨hneed _ _ _, fun _ => hneed _ _ _, fun _ _ _ _ _ => by omega, ?_⟩
  rcases kn k b with ⟨h1, h2⟩ | ⟨h1, h2⟩ | ⟨h1, h2, h3⟩
  · simp [f6_2, f24_1, f24_2, h1, h2, cnd_eq]
  · simp [f6_2, f24_1, f24_2, h1, h2, cnd_eq]
  · by_cases hr : n < 1 ∨ n > 64
    · simp only [f6_2, f24_1, f24_2, h2, h3, cnd_eq]
      grind
    · have e1 : (decide (n < 1)) = false := by simp; omega
      have e2 : (decide (n > 64)) = false := by simp; omega
      have e3 : min (f25_0 k b).toNat IntKind.u64.bits = (f25_0 k b).toNat := by
        simp only [IntKind.bits]; omega
      have e4 : (2 : Int) ^ (f25_0 k b).toNat = p26 (f25_0 k b).toNat := by
        rw [p26_eq (by omega)]; simp
      have e5 : (f25_0 k b == -1) = false := by simp; omega
      have e6 : (f25_0 k b == -2) = false := by simp; omega
      simp only [f6_2, f24_1, f24_2, h2, h3, e1, e2, e3, e4, e5, e6, cnd]
      simp
end Go.Sx.A
