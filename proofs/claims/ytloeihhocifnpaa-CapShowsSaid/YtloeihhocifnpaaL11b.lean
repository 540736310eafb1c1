/- Plain facts on a law of this seat; plain Lean, no program in sight. Conditions: the numbers lie in their kinds' ranges where a theorem says so. -/
import Derived.Test.YtloeihhocifnpaaL11
set_option linter.unusedVariables false
set_option linter.unusedSimpArgs false
namespace Go.Sx.A
open Go Go.Sx Go.Proofs
theorem bits_pos {k b : Int} (h : f57_1 k b = true) : 0 ≤ b ∧ b ≤ 64 := by
  revert h
  simp only [f57_1, f59_0, f59_1, cnd_eq]
  grind (splits := 60) [wrap_i64]
theorem right_nums {k a b r g s m : Int} (h : f17_1 k a b r g s m = true) : 0 ≤ g ∧ 0 ≤ s := by
  revert h
  simp only [f17_1, cnd_eq]
  grind
theorem right_r {k a b r g s m : Int} (h : f16_2 k a b r g s m = true) : 0 ≤ r ∧ r ≤ 7 := by
  revert h
  simp only [f16_2, f47_0, cnd_eq]
  grind
theorem pos_eq {x : Int} (h : 0 ≤ x) : (x != 0) = decide (x > 0) := by
  by_cases e : x = 0
  · subst e; rfl
  · have : x > 0 := by omega
    simp [e, this]
theorem wrap_pos {x : Int} (h0 : 0 ≤ x) (h1 : x < 9223372036854775808) : IntKind.u64.wrap x = x := by rw [wrap_u64]; omega
theorem lits : sp1 ++ ByteArray.mk #[97, 116] ++ eq1 = ByteArray.mk #[32, 97, 116, 61] ∧ sp1 ++ ByteArray.mk #[98, 105, 116, 115] ++ eq1 = ByteArray.mk #[32, 98, 105, 116, 115, 61] ∧
    sp1 ++ ByteArray.mk #[114, 105, 103, 104, 116, 115] ++ eq1 = ByteArray.mk #[32, 114, 105, 103, 104, 116, 115, 61] ∧ sp1 ++ ByteArray.mk #[103, 117, 97, 114, 100] ++ eq1 = ByteArray.mk #[32, 103, 117, 97, 114, 100, 61] ∧
    sp1 ++ ByteArray.mk #[97, 115, 105, 100] ++ eq1 = ByteArray.mk #[32, 97, 115, 105, 100, 61] ∧ sp1 ++ ByteArray.mk #[109, 97, 114, 107] ++ eq1 = ByteArray.mk #[32, 109, 97, 114, 107, 61] := by decide +kernel
section
variable {k a b r g s m : Int} (h1 : 0 ≤ a ∧ a < 18446744073709551616) (h2 : -9223372036854775808 ≤ b ∧ b < 9223372036854775808) (h4 : g < 9223372036854775808) (h5 : s < 9223372036854775808) (h6 : 0 ≤ m ∧ m < 18446744073709551616)
include h1 h2 h4 h5 h6
theorem same_text (hr : f17_1 k a b r g s m = true) : t6 k a b r g s m = v6 k a b r g s m := by
  have e := right_eq (k := k) (r := r) (s := s) h1.1 h1.2 h2 h6.1 h6.2 h4
  obtain ⟨q1, _, _⟩ := right_size' hr
  obtain ⟨b0, b1⟩ := bits_pos q1
  obtain ⟨g0, s0⟩ := right_nums hr
  obtain ⟨r0, r1⟩ := right_r (e ▸ hr)
  obtain ⟨l1, l2, l3, l4, l5, l6⟩ := lits
  unfold t6 t5 t4 t3 t2 t1 v6 v5 v4 v3 v2 v1
  rw [wrap_pos b0 (by omega), wrap_pos r0 (by omega), wrap_pos g0 h4, wrap_pos s0 h5, pos_eq h1.1, pos_eq b0, pos_eq r0, pos_eq g0, pos_eq s0, pos_eq h6.1, l1, l2, l3, l4, l5, l6]
theorem f11_true : f11_24 k a b r g s m = true := by
  have e := right_eq (k := k) (r := r) (s := s) h1.1 h1.2 h2 h6.1 h6.2 h4
  show cnd (!f16_2 k a b r g s m) (cnd (f40_19 k a b r g s m == 10) ((f40_18 k a b r g s m).toList == (ByteArray.mk #[]).toList) false) (cnd (f40_19 k a b r g s m == 0) ((f40_18 k a b r g s m).toList == (v6 k a b r g s m).toList) false) = true
  rw [f40_18_eq, ← e]
  unfold f40_19
  cases hr : f17_1 k a b r g s m with
  | false =>
    show ((ByteArray.mk #[]).toList == (ByteArray.mk #[]).toList) = true
    simp
  | true =>
    rw [same_text h1 h2 h4 h5 h6 hr]
    show ((v6 k a b r g s m).toList == (v6 k a b r g s m).toList) = true
    simp
omit h2 h4 h5 in
theorem f11_needs : f11_6 k a b r g s m ∧ f11_7 k a b r g s m ∧ f11_8 k a b r g s m ∧ f11_9 k a b r g s m ∧ f11_10 k a b r g s m ∧ f11_11 k a b r g s m ∧ f11_12 k a b r g s m ∧ f11_13 k a b r g s m ∧ f11_14 k a b r g s m ∧
    f11_15 k a b r g s m ∧ f11_16 k a b r g s m ∧ f11_17 k a b r g s m ∧ f11_18 k a b r g s m ∧ f11_19 k a b r g s m ∧ f11_20 k a b r g s m ∧ f11_21 k a b r g s m ∧ f11_22 k a b r g s m ∧ f11_23 k a b r g s m := by
  have e0 := name_size k
  obtain ⟨z1, z2, z3, z4, z5⟩ := v_sizes (k := k) (b := b) (r := r) (g := g) (s := s) h1
  have n1 := need11 (lit := ByteArray.mk #[32, 97, 116, 61]) (cur := f21_3 k) (by decide) h1 (by omega)
  have n2 := need11 (lit := ByteArray.mk #[32, 98, 105, 116, 115, 61]) (cur := v1 k a) (by decide) (u64_ok b) (by omega)
  have n3 := need11 (lit := ByteArray.mk #[32, 114, 105, 103, 104, 116, 115, 61]) (cur := v2 k a b) (by decide) (u64_ok r) (by omega)
  have n4 := need11 (lit := ByteArray.mk #[32, 103, 117, 97, 114, 100, 61]) (cur := v3 k a b r) (by decide) (u64_ok g) (by omega)
  have n5 := need11 (lit := ByteArray.mk #[32, 97, 115, 105, 100, 61]) (cur := v4 k a b r g) (by decide) (u64_ok s) (by omega)
  have n6 := need11 (lit := ByteArray.mk #[32, 109, 97, 114, 107, 61]) (cur := v5 k a b r g s) (by decide) h6 (by omega)
  exact ⟨fun _ _ _ => h1, fun _ _ _ => n1.1, fun _ _ _ => n1.2.1, fun _ _ _ => u64_ok b, fun _ _ _ => n2.1, fun _ _ _ => n2.2.1, fun _ _ _ => u64_ok r, fun _ _ _ => n3.1, fun _ _ _ => n3.2.1,
    fun _ _ _ => u64_ok g, fun _ _ _ => n4.1, fun _ _ _ => n4.2.1, fun _ _ _ => u64_ok s, fun _ _ _ => n5.1, fun _ _ _ => n5.2.1, fun _ _ _ => h6, fun _ _ _ => n6.1, fun _ _ _ => n6.2.1⟩
end
end Go.Sx.A
