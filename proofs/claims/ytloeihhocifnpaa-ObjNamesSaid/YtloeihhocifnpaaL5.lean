/- Plain facts on a law of this seat; plain Lean, no program in sight. Conditions: the numbers lie in their kinds' ranges where a theorem says so. -/
import Derived.Test.YtloeihhocifnpaaK3
set_option linter.unusedVariables false
set_option linter.unusedSimpArgs false
namespace Go.Sx.A
open Go Go.Sx Go.Proofs
theorem name_in {k : Int} (h0 : 0 ≤ k) (h1 : k < 11) : f21_3 k = nm k.toNat := by
  have e1 : ¬ k < 0 := by omega
  have e2 : ¬ k ≥ 11 := by omega
  simp [f21_3, cnd_eq, e1, e2]
theorem name_out {k : Int} (h : k < 0 ∨ 11 ≤ k) : f21_3 k = ⟨#[]⟩ := by
  rcases h with h | h
  · simp [f21_3, cnd_eq, h]
  · have e2 : k ≥ 11 := h
    simp [f21_3, cnd_eq, e2]
set_option maxRecDepth 20000 in
theorem kind_of (n : ByteArray) : (f22_24 n = true ∧ ∃ i : Nat, i < 11 ∧ f22_23 n = i ∧ ((nm i).toList == n.toList) = true) ∨
    (f22_24 n = false ∧ f22_23 n = 0 ∧ ∀ i : Nat, i < 11 → ((nm i).toList == n.toList) = false) := by
  unfold f22_23 f22_24
  cases h0 : ((nm (0 + Int.toNat 0)).toList == n.toList)
  case true => exact .inl ⟨rfl, 0, by omega, rfl, h0⟩
  cases h1 : ((nm (0 + Int.toNat 1)).toList == n.toList)
  case true => exact .inl ⟨rfl, 1, by omega, rfl, h1⟩
  cases h2 : ((nm (0 + Int.toNat 2)).toList == n.toList)
  case true => exact .inl ⟨rfl, 2, by omega, rfl, h2⟩
  cases h3 : ((nm (0 + Int.toNat 3)).toList == n.toList)
  case true => exact .inl ⟨rfl, 3, by omega, rfl, h3⟩
  cases h4 : ((nm (0 + Int.toNat 4)).toList == n.toList)
  case true => exact .inl ⟨rfl, 4, by omega, rfl, h4⟩
  cases h5 : ((nm (0 + Int.toNat 5)).toList == n.toList)
  case true => exact .inl ⟨rfl, 5, by omega, rfl, h5⟩
  cases h6 : ((nm (0 + Int.toNat 6)).toList == n.toList)
  case true => exact .inl ⟨rfl, 6, by omega, rfl, h6⟩
  cases h7 : ((nm (0 + Int.toNat 7)).toList == n.toList)
  case true => exact .inl ⟨rfl, 7, by omega, rfl, h7⟩
  cases h8 : ((nm (0 + Int.toNat 8)).toList == n.toList)
  case true => exact .inl ⟨rfl, 8, by omega, rfl, h8⟩
  cases h9 : ((nm (0 + Int.toNat 9)).toList == n.toList)
  case true => exact .inl ⟨rfl, 9, by omega, rfl, h9⟩
  cases h10 : ((nm (0 + Int.toNat 10)).toList == n.toList)
  case true => exact .inl ⟨rfl, 10, by omega, rfl, h10⟩
  refine .inr ⟨rfl, rfl, fun i hi => ?_⟩
  match i, hi with
  | 0, _ => exact h0
  | 1, _ => exact h1
  | 2, _ => exact h2
  | 3, _ => exact h3
  | 4, _ => exact h4
  | 5, _ => exact h5
  | 6, _ => exact h6
  | 7, _ => exact h7
  | 8, _ => exact h8
  | 9, _ => exact h9
  | 10, _ => exact h10
theorem nm_apart : ∀ i, i < 11 → ∀ j, j < 11 → ((nm i).toList == (nm j).toList) = true → i = j := by decide +kernel
theorem nm_some : ∀ i, i < 11 → ((nm i).toList == (ByteArray.mk #[]).toList) = false := by decide +kernel
theorem kind_nm {k : Int} (h0 : 0 ≤ k) (h1 : k < 11) : f22_24 (nm k.toNat) = true ∧ f22_23 (nm k.toNat) = k := by
  rcases kind_of (nm k.toNat) with ⟨a, i, hi, e, q⟩ | ⟨_, _, q⟩
  · have := nm_apart i hi k.toNat (by omega) q
    exact ⟨a, by rw [e]; omega⟩
  · have := q k.toNat (by omega)
    simp at this
theorem f5_true (k : Int) (n : ByteArray) : f5_0 k n = true := by
  have last : cnd (cnd (f22_24 n) ((f21_3 (f22_23 n)).toList == n.toList) false) true (cnd (cnd (!f22_24 n) (f22_23 n == 0) false) (cnd (!n.toList == (f21_3 k).toList) true (n.toList == (ByteArray.mk #[]).toList)) false) = true := by
    rcases kind_of n with ⟨a, i, hi, e, q⟩ | ⟨a, b, q⟩
    · rw [a, e, name_in (by omega) (by omega)]
      simp only [Int.toNat_natCast, q]
      rfl
    · rw [a, b]
      simp only [cnd, Bool.not_false, beq_self_eq_true]
      by_cases hk : 0 ≤ k ∧ k < 11
      · rw [name_in hk.1 hk.2]
        have := q k.toNat (by omega)
        have h2 : (n.toList == (nm k.toNat).toList) = false := by
          rw [Bool.eq_false_iff] at this ⊢
          intro h
          apply this
          simp at h ⊢
          exact h.symm
        rw [h2]; rfl
      · rw [name_out (by omega)]
        cases n.toList == (ByteArray.mk #[]).toList <;> rfl
  unfold f5_0
  by_cases hk : 0 ≤ k ∧ k < 11
  · obtain ⟨p1, p2⟩ := kind_nm hk.1 hk.2
    have e1 : decide (k < 0) = false := by simp; omega
    have e2 : decide (k > 10) = false := by simp; omega
    have e3 := nm_some k.toNat (by omega)
    rw [last]
    rw [name_in hk.1 hk.2, e1, e2, e3, p1, p2]
    simp [cnd]
  · rw [last]
    rw [name_out (by omega)]
    have e1 : cnd (decide (k < 0)) true (decide (k > 10)) = true := by
      rw [cnd_eq]
      split
      · rfl
      · rename_i h; simp at h ⊢; omega
    rw [e1]
    simp [cnd]
end Go.Sx.A
