/- Plain facts on a law of this seat; plain Lean, no program in sight. Conditions: the numbers lie in their kinds' ranges where a theorem says so. -/
import Derived.Test.YtloeihhocifnpaaL9a
import Derived.Test.YtloeihhocifnpaaK4
set_option linter.unusedVariables false
set_option linter.unusedSimpArgs false
namespace Go.Sx.A
open Go Go.Sx Go.Proofs
/-- A field's text, if there is one. -/
def add (c : Bool) (t p : ByteArray) : ByteArray := cnd c (t ++ p) t
theorem add_size {c : Bool} {t p : ByteArray} : (add c t p).size ≤ t.size + p.size := by
  unfold add
  cases c
  · show t.size ≤ _; omega
  · show (t ++ p).size ≤ _; rw [ByteArray.size_append]; exact Nat.le_refl _
abbrev sp1 : ByteArray := ByteArray.mk #[32]
abbrev eq1 : ByteArray := ByteArray.mk #[61]
theorem need40 {nmm cur : ByteArray} {w : Int} (hn : nmm.size ≤ 10) (hw : 0 ≤ w ∧ w < 18446744073709551616) (hc : cur.size ≤ 1000) :
    (true = true → sp1.size + nmm.size ≤ 9223372036854775807) ∧ (true = true → (sp1 ++ nmm).size + eq1.size ≤ 9223372036854775807) ∧ (true = true → 0 ≤ w ∧ w < 18446744073709551616) ∧
    (true = true → (sp1 ++ nmm ++ eq1).size + (showI w).size ≤ 9223372036854775807) ∧ (true = true → cur.size + (sp1 ++ nmm ++ eq1 ++ showI w).size ≤ 9223372036854775807) := by
  have hs := showI_size hw.1 hw.2
  have e1 : sp1.size = 1 := rfl
  have e2 : eq1.size = 1 := rfl
  simp only [ByteArray.size_append, e1, e2]
  refine ⟨fun _ => by omega, fun _ => by omega, fun _ => hw, fun _ => by omega, fun _ => by omega⟩
theorem piece_size {nmm : ByteArray} {w : Int} (hn : nmm.size ≤ 10) (hw : 0 ≤ w ∧ w < 18446744073709551616) : (sp1 ++ nmm ++ eq1 ++ showI w).size ≤ 30 := by
  have hs := showI_size hw.1 hw.2
  have e1 : sp1.size = 1 := rfl
  have e2 : eq1.size = 1 := rfl
  simp only [ByteArray.size_append, e1, e2]
  omega
theorem name_size (k : Int) : (f21_3 k).size ≤ 7 := by
  by_cases h : 0 ≤ k ∧ k < 11
  · have key : ∀ i, i < 11 → (nm i).size ≤ 7 := by decide +kernel
    have e1 : ¬ k < 0 := by omega
    have e2 : ¬ k ≥ 11 := by omega
    have : f21_3 k = nm k.toNat := by simp [f21_3, cnd_eq, e1, e2]
    rw [this]
    exact key _ (by omega)
  · have : f21_3 k = ⟨#[]⟩ := by
      have e : cnd (decide (k < 0)) true (decide (k ≥ 11)) = true := by
        rw [cnd_eq]
        split
        · rfl
        · rename_i q; simp at q ⊢; omega
      unfold f21_3
      rw [e]
      rfl
    rw [this]
    decide
theorem u64_ok (x : Int) : 0 ≤ IntKind.u64.wrap x ∧ IntKind.u64.wrap x < 18446744073709551616 := by
  rw [wrap_u64]; omega
section
variable {k a b r g s m : Int} (h1 : 0 ≤ a ∧ a < 18446744073709551616) (h6 : 0 ≤ m ∧ m < 18446744073709551616)
/-- What the program adds, field by field. -/
def t1 (k a : Int) := add (a != 0) (f21_3 k) (sp1 ++ ByteArray.mk #[97, 116] ++ eq1 ++ showI a)
def t2 (k a b : Int) := add (IntKind.u64.wrap b != 0) (t1 k a) (sp1 ++ ByteArray.mk #[98, 105, 116, 115] ++ eq1 ++ showI (IntKind.u64.wrap b))
def t3 (k a b r : Int) := add (IntKind.u64.wrap r != 0) (t2 k a b) (sp1 ++ ByteArray.mk #[114, 105, 103, 104, 116, 115] ++ eq1 ++ showI (IntKind.u64.wrap r))
def t4 (k a b r g : Int) := add (IntKind.u64.wrap g != 0) (t3 k a b r) (sp1 ++ ByteArray.mk #[103, 117, 97, 114, 100] ++ eq1 ++ showI (IntKind.u64.wrap g))
def t5 (k a b r g s : Int) := add (IntKind.u64.wrap s != 0) (t4 k a b r g) (sp1 ++ ByteArray.mk #[97, 115, 105, 100] ++ eq1 ++ showI (IntKind.u64.wrap s))
def t6 (k a b r g s m : Int) := add (m != 0) (t5 k a b r g s) (sp1 ++ ByteArray.mk #[109, 97, 114, 107] ++ eq1 ++ showI m)
theorem f40_18_eq : f40_18 k a b r g s m = cnd (!f17_1 k a b r g s m) (ByteArray.mk #[]) (t6 k a b r g s m) := rfl
include h1 in
theorem t1_size : (t1 k a).size ≤ 37 := by
  have := @add_size (a != 0) (f21_3 k) (sp1 ++ ByteArray.mk #[97, 116] ++ eq1 ++ showI a)
  have := piece_size (nmm := ByteArray.mk #[97, 116]) (by decide) h1
  have := name_size k
  unfold t1; omega
include h1 in
theorem t2_size : (t2 k a b).size ≤ 67 := by
  have := @add_size (IntKind.u64.wrap b != 0) (t1 k a) (sp1 ++ ByteArray.mk #[98, 105, 116, 115] ++ eq1 ++ showI (IntKind.u64.wrap b))
  have := piece_size (nmm := ByteArray.mk #[98, 105, 116, 115]) (by decide) (u64_ok b)
  have := t1_size (k := k) h1
  unfold t2; omega
include h1 in
theorem t3_size : (t3 k a b r).size ≤ 97 := by
  have := @add_size (IntKind.u64.wrap r != 0) (t2 k a b) (sp1 ++ ByteArray.mk #[114, 105, 103, 104, 116, 115] ++ eq1 ++ showI (IntKind.u64.wrap r))
  have := piece_size (nmm := ByteArray.mk #[114, 105, 103, 104, 116, 115]) (by decide) (u64_ok r)
  have := t2_size (k := k) (b := b) h1
  unfold t3; omega
include h1 in
theorem t4_size : (t4 k a b r g).size ≤ 127 := by
  have := @add_size (IntKind.u64.wrap g != 0) (t3 k a b r) (sp1 ++ ByteArray.mk #[103, 117, 97, 114, 100] ++ eq1 ++ showI (IntKind.u64.wrap g))
  have := piece_size (nmm := ByteArray.mk #[103, 117, 97, 114, 100]) (by decide) (u64_ok g)
  have := t3_size (k := k) (b := b) (r := r) h1
  unfold t4; omega
include h1 in
theorem t5_size : (t5 k a b r g s).size ≤ 157 := by
  have := @add_size (IntKind.u64.wrap s != 0) (t4 k a b r g) (sp1 ++ ByteArray.mk #[97, 115, 105, 100] ++ eq1 ++ showI (IntKind.u64.wrap s))
  have := piece_size (nmm := ByteArray.mk #[97, 115, 105, 100]) (by decide) (u64_ok s)
  have := t4_size (k := k) (b := b) (r := r) (g := g) h1
  unfold t5; omega
include h1 h6 in
theorem f40_needs : f40_2 k a b r g s m ∧ f40_5 k a b r g s m ∧ f40_8 k a b r g s m ∧ f40_11 k a b r g s m ∧ f40_14 k a b r g s m ∧ f40_17 k a b r g s m := by
  refine ⟨fun _ _ => need40 (by decide) h1 (Nat.le_trans (name_size k) (by omega)), fun _ _ => need40 (cur := t1 k a) (by decide) (u64_ok b) (Nat.le_trans (t1_size h1) (by omega)),
    fun _ _ => need40 (cur := t2 k a b) (by decide) (u64_ok r) (Nat.le_trans (t2_size h1) (by omega)), fun _ _ => need40 (cur := t3 k a b r) (by decide) (u64_ok g) (Nat.le_trans (t3_size h1) (by omega)),
    fun _ _ => need40 (cur := t4 k a b r g) (by decide) (u64_ok s) (Nat.le_trans (t4_size h1) (by omega)), fun _ _ => need40 (cur := t5 k a b r g s) (by decide) h6 (Nat.le_trans (t5_size h1) (by omega))⟩
/-- What the law adds. -/
def v1 (k a : Int) := add (decide (a > 0)) (f21_3 k) (ByteArray.mk #[32, 97, 116, 61] ++ showI a)
def v2 (k a b : Int) := add (decide (b > 0)) (v1 k a) (ByteArray.mk #[32, 98, 105, 116, 115, 61] ++ showI (IntKind.u64.wrap b))
def v3 (k a b r : Int) := add (decide (r > 0)) (v2 k a b) (ByteArray.mk #[32, 114, 105, 103, 104, 116, 115, 61] ++ showI (IntKind.u64.wrap r))
def v4 (k a b r g : Int) := add (decide (g > 0)) (v3 k a b r) (ByteArray.mk #[32, 103, 117, 97, 114, 100, 61] ++ showI (IntKind.u64.wrap g))
def v5 (k a b r g s : Int) := add (decide (s > 0)) (v4 k a b r g) (ByteArray.mk #[32, 97, 115, 105, 100, 61] ++ showI (IntKind.u64.wrap s))
def v6 (k a b r g s m : Int) := add (decide (m > 0)) (v5 k a b r g s) (ByteArray.mk #[32, 109, 97, 114, 107, 61] ++ showI m)
theorem need11 {lit cur : ByteArray} {w : Int} (hn : lit.size ≤ 10) (hw : 0 ≤ w ∧ w < 18446744073709551616) (hc : cur.size ≤ 1000) :
    lit.size + (showI w).size ≤ 9223372036854775807 ∧ cur.size + (lit ++ showI w).size ≤ 9223372036854775807 ∧ (lit ++ showI w).size ≤ 30 := by
  have hs := showI_size hw.1 hw.2
  simp only [ByteArray.size_append]
  omega
include h1 in
theorem v_sizes : (v1 k a).size ≤ 37 ∧ (v2 k a b).size ≤ 67 ∧ (v3 k a b r).size ≤ 97 ∧ (v4 k a b r g).size ≤ 127 ∧ (v5 k a b r g s).size ≤ 157 := by
  have e0 := name_size k
  have a1 := @add_size (decide (a > 0)) (f21_3 k) (ByteArray.mk #[32, 97, 116, 61] ++ showI a)
  have b1 := (need11 (lit := ByteArray.mk #[32, 97, 116, 61]) (cur := ByteArray.mk #[]) (by decide) h1 (by decide)).2.2
  have a2 := @add_size (decide (b > 0)) (v1 k a) (ByteArray.mk #[32, 98, 105, 116, 115, 61] ++ showI (IntKind.u64.wrap b))
  have b2 := (need11 (lit := ByteArray.mk #[32, 98, 105, 116, 115, 61]) (cur := ByteArray.mk #[]) (by decide) (u64_ok b) (by decide)).2.2
  have a3 := @add_size (decide (r > 0)) (v2 k a b) (ByteArray.mk #[32, 114, 105, 103, 104, 116, 115, 61] ++ showI (IntKind.u64.wrap r))
  have b3 := (need11 (lit := ByteArray.mk #[32, 114, 105, 103, 104, 116, 115, 61]) (cur := ByteArray.mk #[]) (by decide) (u64_ok r) (by decide)).2.2
  have a4 := @add_size (decide (g > 0)) (v3 k a b r) (ByteArray.mk #[32, 103, 117, 97, 114, 100, 61] ++ showI (IntKind.u64.wrap g))
  have b4 := (need11 (lit := ByteArray.mk #[32, 103, 117, 97, 114, 100, 61]) (cur := ByteArray.mk #[]) (by decide) (u64_ok g) (by decide)).2.2
  have a5 := @add_size (decide (s > 0)) (v4 k a b r g) (ByteArray.mk #[32, 97, 115, 105, 100, 61] ++ showI (IntKind.u64.wrap s))
  have b5 := (need11 (lit := ByteArray.mk #[32, 97, 115, 105, 100, 61]) (cur := ByteArray.mk #[]) (by decide) (u64_ok s) (by decide)).2.2
  unfold v5 v4 v3 v2 v1 at *
  omega
end
end Go.Sx.A
