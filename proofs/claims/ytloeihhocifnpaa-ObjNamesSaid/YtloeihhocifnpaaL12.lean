/- Plain facts on a law of this seat; plain Lean, no program in sight. Conditions: the numbers lie in their kinds' ranges where a theorem says so. -/
import Derived.Test.YtloeihhocifnpaaL10
import Derived.Test.YtloeihhocifnpaaL5
import Derived.Test.YtloeihhocifnpaaK5
set_option linter.unusedVariables false
set_option linter.unusedSimpArgs false
namespace Go.Sx.A
open Go Go.Sx Go.Proofs
/-- The program's error of a first object is the document's. -/
theorem fresh_err (k b : Int) : f37_5 k b 0 = f38_7 k b 0 := by
  have h := f10_true k b 0 (by omega) (by omega)
  unfold f10_0 at h
  cases hne : (f37_5 k b 0 != f38_7 k b 0) with
  | false => simpa using hne
  | true =>
    rw [hne] at h
    simp [cnd_eq] at h
theorem fresh_null (b : Int) : f38_7 0 b 0 = 20 := by
  have : f25_0 0 b = -1 := by simp [f25_0, cnd_eq]
  unfold f38_7
  rw [this]
  rfl
theorem f21_lit (i : Nat) (h : i < 11) : f21_3 (i : Int) = nm i := by
  rw [name_in (by omega) (by omega)]
  simp
/-- Of the kind that has the name: what the law compares is alike. -/
theorem found {n : ByteArray} {b : Int} {i : Nat} {k : Int} (hk : k = i) (h1 : f22_24 n = true) (h2 : f22_23 n = k) :
    cnd (cnd (f42_1 n b == f38_7 k b 0) ((f42_1 n b == 0) == cnd (f42_0 n b == k) (decide (k > 0)) false) false) (cnd (f42_1 n b == 0) true (f42_0 n b == 0)) false = true := by
  have e := fresh_err k b
  unfold f42_1 f42_0
  rw [h1, h2, e]
  simp only [Bool.not_true, cnd_eq, Bool.false_eq_true, if_false]
  by_cases hz : f38_7 k b 0 = 0
  · have hk0 : ¬ k = 0 := by
      intro h
      rw [h, fresh_null] at hz
      cases hz
    have : k > 0 := by omega
    simp [hz, this]
  · by_cases hk0 : k = 0
    · subst hk0; simp [hz]
    · have h0 : ¬ (0 : Int) = k := by omega
      simp [hz, h0]
set_option maxRecDepth 20000 in
theorem f12_true (n : ByteArray) (b : Int) : f12_0 n b = true := by
  have l0 : f21_3 0 = nm 0 := f21_lit 0 (by omega)
  have l1 : f21_3 1 = nm 1 := f21_lit 1 (by omega)
  have l2 : f21_3 2 = nm 2 := f21_lit 2 (by omega)
  have l3 : f21_3 3 = nm 3 := f21_lit 3 (by omega)
  have l4 : f21_3 4 = nm 4 := f21_lit 4 (by omega)
  have l5 : f21_3 5 = nm 5 := f21_lit 5 (by omega)
  have l6 : f21_3 6 = nm 6 := f21_lit 6 (by omega)
  have l7 : f21_3 7 = nm 7 := f21_lit 7 (by omega)
  have l8 : f21_3 8 = nm 8 := f21_lit 8 (by omega)
  have l9 : f21_3 9 = nm 9 := f21_lit 9 (by omega)
  have l10 : f21_3 10 = nm 10 := f21_lit 10 (by omega)
  unfold f12_0
  rw [l0, l1, l2, l3, l4, l5, l6, l7, l8, l9, l10]
  rcases kind_of n with ⟨a, i, hi, e, q⟩ | ⟨a, e, q⟩
  · have no : ∀ j, j < 11 → j ≠ i → ((nm j).toList == n.toList) = false := by
      intro j hj hne
      rw [Bool.eq_false_iff]
      intro h
      apply hne
      refine nm_apart j hj i hi ?_
      have h1 : (nm j).toList = n.toList := by simpa using h
      have h2 : (nm i).toList = n.toList := by simpa using q
      rw [h1, h2]; simp
    have F := fun k (hk : k = (i : Int)) => found (b := b) (k := k) hk a (e.trans hk.symm)
    have : i = 0 ∨ i = 1 ∨ i = 2 ∨ i = 3 ∨ i = 4 ∨ i = 5 ∨ i = 6 ∨ i = 7 ∨ i = 8 ∨ i = 9 ∨ i = 10 := by omega
    rcases this with rfl | rfl | rfl | rfl | rfl | rfl | rfl | rfl | rfl | rfl | rfl
    · rw [q]; exact F 0 rfl
    · rw [no 0 (by omega) (by omega), q]; exact F 1 rfl
    · rw [no 0 (by omega) (by omega), no 1 (by omega) (by omega), q]; exact F 2 rfl
    · rw [no 0 (by omega) (by omega), no 1 (by omega) (by omega), no 2 (by omega) (by omega), q]; exact F 3 rfl
    · rw [no 0 (by omega) (by omega), no 1 (by omega) (by omega), no 2 (by omega) (by omega), no 3 (by omega) (by omega), q]; exact F 4 rfl
    · rw [no 0 (by omega) (by omega), no 1 (by omega) (by omega), no 2 (by omega) (by omega), no 3 (by omega) (by omega), no 4 (by omega) (by omega), q]; exact F 5 rfl
    · rw [no 0 (by omega) (by omega), no 1 (by omega) (by omega), no 2 (by omega) (by omega), no 3 (by omega) (by omega), no 4 (by omega) (by omega), no 5 (by omega) (by omega), q]; exact F 6 rfl
    · rw [no 0 (by omega) (by omega), no 1 (by omega) (by omega), no 2 (by omega) (by omega), no 3 (by omega) (by omega), no 4 (by omega) (by omega), no 5 (by omega) (by omega), no 6 (by omega) (by omega), q]; exact F 7 rfl
    · rw [no 0 (by omega) (by omega), no 1 (by omega) (by omega), no 2 (by omega) (by omega), no 3 (by omega) (by omega), no 4 (by omega) (by omega), no 5 (by omega) (by omega), no 6 (by omega) (by omega), no 7 (by omega) (by omega), q]; exact F 8 rfl
    · rw [no 0 (by omega) (by omega), no 1 (by omega) (by omega), no 2 (by omega) (by omega), no 3 (by omega) (by omega), no 4 (by omega) (by omega), no 5 (by omega) (by omega), no 6 (by omega) (by omega), no 7 (by omega) (by omega), no 8 (by omega) (by omega), q]; exact F 9 rfl
    · rw [no 0 (by omega) (by omega), no 1 (by omega) (by omega), no 2 (by omega) (by omega), no 3 (by omega) (by omega), no 4 (by omega) (by omega), no 5 (by omega) (by omega), no 6 (by omega) (by omega), no 7 (by omega) (by omega), no 8 (by omega) (by omega), no 9 (by omega) (by omega), q]; exact F 10 rfl
  · rw [q 0 (by omega), q 1 (by omega), q 2 (by omega), q 3 (by omega), q 4 (by omega), q 5 (by omega), q 6 (by omega), q 7 (by omega), q 8 (by omega), q 9 (by omega), q 10 (by omega)]
    unfold f42_1 f42_0
    rw [a]
    rfl
end Go.Sx.A
