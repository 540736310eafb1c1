/- Contracts of the functions of this seat, each by the executor and the kernel; part 4. Their conditions stand in each. -/
import Derived.Test.YtoldganbhlgboaaC3
set_option linter.unusedVariables false
set_option linter.unusedSimpArgs false
set_option linter.unnecessarySimpa false
namespace Go.Sx.M
open Go Go.Sx Go.Proofs Go.RowKit
set_option maxRecDepth 100000
structure V142 where
 z : Int
 L : Nat
 a_ : Int
 b_ : Int
 Q : Nat
 t : Nat → Int
 k : Nat → Int
 a : Nat → Int
 b : Nat → Int
 r : Nat → Int
 g : Nat → Int
 s : Nat → Int
 m : Nat → Int
 d : Nat → Int
def A142 (v : V142) : List SV := [.agg [.int .u64 v.z, .slc 0 9 0 v.L], .int .u64 v.a_, .int .u64 v.b_]
def H142 (v : V142) : List (HO th.R) := [.row 100 9 v.Q (rw9 v.t v.k v.a v.b v.r v.g v.s v.m v.d)]
def toV142 (v : V142) : List (Vl th.R) := [.i v.z, .n v.L, .i v.a_, .i v.b_, .n v.Q, .c v.t, .c v.k, .c v.a, .c v.b, .c v.r, .c v.g, .c v.s, .c v.m, .c v.d]
def ofV142 : List (Vl th.R) → Option V142
 | [.i z, .n L, .i a_, .i b_, .n Q, .c t, .c k, .c a, .c b, .c r, .c g, .c s, .c m, .c d] => some ⟨z, L, a_, b_, Q, t, k, a, b, r, g, s, m, d⟩
 | _ => none
def d142 : Ft := ⟨[.agg [.int .u64, .slc0 0 9], .int .u64, .int .u64], [.rowc 100 [.int .u64, .int .i64, .int .u64, .int .i64, .int .i64, .int .i64, .int .i64, .int .u64, .int .i64]]⟩
noncomputable def f142_44 (v : V142) : (Int) := hdT v.z (nds (ndf v.t v.k v.a v.b v.r v.g v.s v.m v.d) v.L) v.a_
noncomputable def f142_45 (v : V142) : (Bool) := f142_44 v != (0:Int)
noncomputable def f142_46 (v : V142) : (Int) := hdT v.z (nds (ndf v.t v.k v.a v.b v.r v.g v.s v.m v.d) v.L) v.b_
noncomputable def f142_47 (v : V142) : (Bool) := f142_46 v != (0:Int)
noncomputable def f142_48 (v : V142) : (Int) := fnd (nds (ndf v.t v.k v.a v.b v.r v.g v.s v.m v.d) v.L) v.a_
noncomputable def f142_49 (v : V142) : (Nat) := (0:Nat) + (f142_48 v).toNat
noncomputable def f142_50 (v : V142) : (Int) := fnd (nds (ndf v.t v.k v.a v.b v.r v.g v.s v.m v.d) v.L) v.b_
noncomputable def f142_51 (v : V142) : (Nat) := (0:Nat) + (f142_50 v).toNat
noncomputable def f142_52 (v : V142) : (Bool) := f142_48 v == f142_50 v
noncomputable def f142_53 (v : V142) : (Int) := v.k (f142_49 v)
noncomputable def f142_54 (v : V142) : (Int) := cnd ((f142_51 v).beq (f142_49 v)) (f142_53 v) (v.k (f142_51 v))
noncomputable def f142_55 (v : V142) : (Int) := v.a (f142_49 v)
noncomputable def f142_56 (v : V142) : (Int) := cnd ((f142_51 v).beq (f142_49 v)) (f142_55 v) (v.a (f142_51 v))
noncomputable def f142_57 (v : V142) : (Int) := v.b (f142_49 v)
noncomputable def f142_58 (v : V142) : (Int) := cnd ((f142_51 v).beq (f142_49 v)) (f142_57 v) (v.b (f142_51 v))
noncomputable def f142_59 (v : V142) : (Int) := v.r (f142_49 v)
noncomputable def f142_60 (v : V142) : (Int) := cnd ((f142_51 v).beq (f142_49 v)) (f142_59 v) (v.r (f142_51 v))
noncomputable def f142_61 (v : V142) : (Int) := v.g (f142_49 v)
noncomputable def f142_62 (v : V142) : (Int) := cnd ((f142_51 v).beq (f142_49 v)) (f142_61 v) (v.g (f142_51 v))
noncomputable def f142_63 (v : V142) : (Int) := v.s (f142_49 v)
noncomputable def f142_64 (v : V142) : (Int) := cnd ((f142_51 v).beq (f142_49 v)) (f142_63 v) (v.s (f142_51 v))
noncomputable def f142_65 (v : V142) : (Int) := v.m (f142_49 v)
noncomputable def f142_66 (v : V142) : (Int) := cnd ((f142_51 v).beq (f142_49 v)) (f142_65 v) (v.m (f142_51 v))
noncomputable def f142_67 (v : V142) : (Int) := v.d (f142_49 v)
noncomputable def f142_68 (v : V142) : (Int) := cnd ((f142_51 v).beq (f142_49 v)) (f142_67 v) (v.d (f142_51 v))
noncomputable def f142_0 (v : V142) : (Prop) := ∀ (i:Nat), scpL (0:Nat) ((rw9 v.t v.k v.a v.b v.r v.g v.s v.m v.d) i) = true
noncomputable def f142_1 (v : V142) : (Prop) := ∀ (i:Nat), i < v.Q → (rw9 v.t v.k v.a v.b v.r v.g v.s v.m v.d) i = elC (rw9 v.t v.k v.a v.b v.r v.g v.s v.m v.d) (0:Nat) ck9 i
noncomputable def f142_2 (v : V142) : (Prop) := pre183 (V183.mk v.z v.L v.a_ v.Q v.t v.k v.a v.b v.r v.g v.s v.m v.d)
noncomputable def f142_3 (v : V142) : (Prop) := f142_45 v = false → ∀ (i:Nat), scpL (0:Nat) ((rw9 v.t v.k v.a v.b v.r v.g v.s v.m v.d) i) = true
noncomputable def f142_4 (v : V142) : (Prop) := f142_45 v = false → ∀ (i:Nat), i < v.Q → (rw9 v.t v.k v.a v.b v.r v.g v.s v.m v.d) i = elC (rw9 v.t v.k v.a v.b v.r v.g v.s v.m v.d) (0:Nat) ck9 i
noncomputable def f142_5 (v : V142) : (Prop) := f142_45 v = false → pre183 (V183.mk v.z v.L v.b_ v.Q v.t v.k v.a v.b v.r v.g v.s v.m v.d)
noncomputable def f142_6 (v : V142) : (Prop) := f142_45 v = false → f142_47 v = false → ∀ (i:Nat), scpL (0:Nat) ((rw9 v.t v.k v.a v.b v.r v.g v.s v.m v.d) i) = true
noncomputable def f142_7 (v : V142) : (Prop) := f142_45 v = false → f142_47 v = false → ∀ (i:Nat), i < v.Q → (rw9 v.t v.k v.a v.b v.r v.g v.s v.m v.d) i = elC (rw9 v.t v.k v.a v.b v.r v.g v.s v.m v.d) (0:Nat) ck9 i
noncomputable def f142_8 (v : V142) : (Prop) := f142_45 v = false → f142_47 v = false → pre184 (V184.mk v.z v.L v.Q v.t v.k v.a v.b v.r v.g v.s v.m v.d)
noncomputable def f142_9 (v : V142) : (Prop) := f142_45 v = false → f142_47 v = false → (∀ (i:Nat), scpL (0:Nat) ((rw9 v.t v.k v.a v.b v.r v.g v.s v.m v.d) i) = true) ∧ ∀ (i:Nat), scpL (0:Nat) ((rw9 v.t v.k v.a v.b v.r v.g v.s v.m v.d) i) = true
noncomputable def f142_10 (v : V142) : (Prop) := f142_45 v = false → f142_47 v = false → ∀ (i:Nat), i < v.L → (rw9 v.t v.k v.a v.b v.r v.g v.s v.m v.d) i = elC (rw9 v.t v.k v.a v.b v.r v.g v.s v.m v.d) (0:Nat) ck9 i
noncomputable def f142_11 (v : V142) : (Prop) := f142_45 v = false → f142_47 v = false → pre69 (V69.mk v.z v.L v.a_ v.L v.t v.k v.a v.b v.r v.g v.s v.m v.d)
noncomputable def f142_12 (v : V142) : (Prop) := f142_45 v = false → f142_47 v = false → pre69 (V69.mk v.z v.L v.b_ v.L v.t v.k v.a v.b v.r v.g v.s v.m v.d)
noncomputable def f142_13 (v : V142) : (Prop) := f142_45 v = false → f142_47 v = false → (0:Int) ≤ f142_48 v ∧ f142_48 v < (↑v.L:Int)
noncomputable def f142_14 (v : V142) : (Prop) := f142_45 v = false → f142_47 v = false → f142_49 v < v.L ∧ (9:Nat) = (9:Nat)
noncomputable def f142_15 (v : V142) : (Prop) := f142_45 v = false → f142_47 v = false → (0:Int) ≤ f142_50 v ∧ f142_50 v < (↑v.L:Int)
noncomputable def f142_16 (v : V142) : (Prop) := f142_45 v = false → f142_47 v = false → f142_51 v < v.L ∧ (9:Nat) = (9:Nat)
noncomputable def f142_17 (v : V142) : (Prop) := f142_45 v = false → f142_47 v = false → f142_52 v = true → (0:Int) ≤ f142_48 v ∧ f142_48 v < (↑v.L:Int)
noncomputable def f142_18 (v : V142) : (Prop) := f142_45 v = false → f142_47 v = false → f142_52 v = true → f142_49 v < v.L ∧ (9:Nat) = (9:Nat)
noncomputable def f142_19 (v : V142) : (Bool) := f142_45 v
noncomputable def f142_20 (v : V142) : (Int) := f142_44 v
noncomputable def f142_21 (v : V142) : (Bool) := f142_47 v
noncomputable def f142_22 (v : V142) : (Int) := f142_46 v
noncomputable def f142_23 (v : V142) : (Bool) := f142_52 v
noncomputable def f142_24 (v : V142) : (Prop) := (∀ (i:Nat), scpL (0:Nat) ((rw9 v.t v.k v.a v.b v.r v.g v.s v.m v.d) i) = true) ∧ ∀ (i:Nat), scpL (0:Nat) ((fun (j:Nat) => rowSet (j.beq (f142_49 v)) (splice ((fun (j:Nat) => rowSet (j.beq (f142_51 v)) (splice ((fun (j:Nat) => rowSet (j.beq (f142_49 v)) (splice ((rw9 v.t v.k v.a v.b v.r v.g v.s v.m v.d) (f142_49 v)) (0:Nat) (SV.int IntKind.u64 v.b_).cells) ((rw9 v.t v.k v.a v.b v.r v.g v.s v.m v.d) j)) (f142_51 v)) (0:Nat) (SV.int IntKind.u64 v.a_).cells) ((fun (j:Nat) => rowSet (j.beq (f142_49 v)) (splice ((rw9 v.t v.k v.a v.b v.r v.g v.s v.m v.d) (f142_49 v)) (0:Nat) (SV.int IntKind.u64 v.b_).cells) ((rw9 v.t v.k v.a v.b v.r v.g v.s v.m v.d) j)) j)) (f142_49 v)) (0:Nat) (SV.int IntKind.u64 v.a_).cells) ((fun (j:Nat) => rowSet (j.beq (f142_51 v)) (splice ((fun (j:Nat) => rowSet (j.beq (f142_49 v)) (splice ((rw9 v.t v.k v.a v.b v.r v.g v.s v.m v.d) (f142_49 v)) (0:Nat) (SV.int IntKind.u64 v.b_).cells) ((rw9 v.t v.k v.a v.b v.r v.g v.s v.m v.d) j)) (f142_51 v)) (0:Nat) (SV.int IntKind.u64 v.a_).cells) ((fun (j:Nat) => rowSet (j.beq (f142_49 v)) (splice ((rw9 v.t v.k v.a v.b v.r v.g v.s v.m v.d) (f142_49 v)) (0:Nat) (SV.int IntKind.u64 v.b_).cells) ((rw9 v.t v.k v.a v.b v.r v.g v.s v.m v.d) j)) j)) j)) i) = true
noncomputable def f142_25 (v : V142) : Nat → (Int) := fun (j:Nat) => cnd (j.beq (f142_49 v)) v.a_ (cnd (j.beq (f142_51 v)) v.a_ (cnd (j.beq (f142_49 v)) v.b_ (v.t j)))
noncomputable def f142_26 (v : V142) : Nat → (Int) := fun (j:Nat) => cnd (j.beq (f142_49 v)) (cnd ((f142_49 v).beq (f142_51 v)) (f142_54 v) (cnd ((f142_49 v).beq (f142_49 v)) (f142_53 v) (f142_53 v))) (cnd (j.beq (f142_51 v)) (f142_54 v) (cnd (j.beq (f142_49 v)) (f142_53 v) (v.k j)))
noncomputable def f142_27 (v : V142) : Nat → (Int) := fun (j:Nat) => cnd (j.beq (f142_49 v)) (cnd ((f142_49 v).beq (f142_51 v)) (f142_56 v) (cnd ((f142_49 v).beq (f142_49 v)) (f142_55 v) (f142_55 v))) (cnd (j.beq (f142_51 v)) (f142_56 v) (cnd (j.beq (f142_49 v)) (f142_55 v) (v.a j)))
noncomputable def f142_28 (v : V142) : Nat → (Int) := fun (j:Nat) => cnd (j.beq (f142_49 v)) (cnd ((f142_49 v).beq (f142_51 v)) (f142_58 v) (cnd ((f142_49 v).beq (f142_49 v)) (f142_57 v) (f142_57 v))) (cnd (j.beq (f142_51 v)) (f142_58 v) (cnd (j.beq (f142_49 v)) (f142_57 v) (v.b j)))
noncomputable def f142_29 (v : V142) : Nat → (Int) := fun (j:Nat) => cnd (j.beq (f142_49 v)) (cnd ((f142_49 v).beq (f142_51 v)) (f142_60 v) (cnd ((f142_49 v).beq (f142_49 v)) (f142_59 v) (f142_59 v))) (cnd (j.beq (f142_51 v)) (f142_60 v) (cnd (j.beq (f142_49 v)) (f142_59 v) (v.r j)))
noncomputable def f142_30 (v : V142) : Nat → (Int) := fun (j:Nat) => cnd (j.beq (f142_49 v)) (cnd ((f142_49 v).beq (f142_51 v)) (f142_62 v) (cnd ((f142_49 v).beq (f142_49 v)) (f142_61 v) (f142_61 v))) (cnd (j.beq (f142_51 v)) (f142_62 v) (cnd (j.beq (f142_49 v)) (f142_61 v) (v.g j)))
noncomputable def f142_31 (v : V142) : Nat → (Int) := fun (j:Nat) => cnd (j.beq (f142_49 v)) (cnd ((f142_49 v).beq (f142_51 v)) (f142_64 v) (cnd ((f142_49 v).beq (f142_49 v)) (f142_63 v) (f142_63 v))) (cnd (j.beq (f142_51 v)) (f142_64 v) (cnd (j.beq (f142_49 v)) (f142_63 v) (v.s j)))
noncomputable def f142_32 (v : V142) : Nat → (Int) := fun (j:Nat) => cnd (j.beq (f142_49 v)) (cnd ((f142_49 v).beq (f142_51 v)) (f142_66 v) (cnd ((f142_49 v).beq (f142_49 v)) (f142_65 v) (f142_65 v))) (cnd (j.beq (f142_51 v)) (f142_66 v) (cnd (j.beq (f142_49 v)) (f142_65 v) (v.m j)))
noncomputable def f142_33 (v : V142) : Nat → (Int) := fun (j:Nat) => cnd (j.beq (f142_49 v)) (cnd ((f142_49 v).beq (f142_51 v)) (f142_68 v) (cnd ((f142_49 v).beq (f142_49 v)) (f142_67 v) (f142_67 v))) (cnd (j.beq (f142_51 v)) (f142_68 v) (cnd (j.beq (f142_49 v)) (f142_67 v) (v.d j)))
noncomputable def f142_34 (v : V142) : (Prop) := (∀ (i:Nat), scpL (0:Nat) ((rw9 v.t v.k v.a v.b v.r v.g v.s v.m v.d) i) = true) ∧ ∀ (i:Nat), scpL (0:Nat) ((fun (j:Nat) => rowSet (j.beq (f142_51 v)) (splice ((fun (j:Nat) => rowSet (j.beq (f142_49 v)) (splice ((rw9 v.t v.k v.a v.b v.r v.g v.s v.m v.d) (f142_49 v)) (0:Nat) (SV.int IntKind.u64 v.b_).cells) ((rw9 v.t v.k v.a v.b v.r v.g v.s v.m v.d) j)) (f142_51 v)) (0:Nat) (SV.int IntKind.u64 v.a_).cells) ((fun (j:Nat) => rowSet (j.beq (f142_49 v)) (splice ((rw9 v.t v.k v.a v.b v.r v.g v.s v.m v.d) (f142_49 v)) (0:Nat) (SV.int IntKind.u64 v.b_).cells) ((rw9 v.t v.k v.a v.b v.r v.g v.s v.m v.d) j)) j)) i) = true
noncomputable def f142_35 (v : V142) : Nat → (Int) := fun (j:Nat) => cnd (j.beq (f142_51 v)) v.a_ (cnd (j.beq (f142_49 v)) v.b_ (v.t j))
noncomputable def f142_36 (v : V142) : Nat → (Int) := fun (j:Nat) => cnd (j.beq (f142_51 v)) (f142_54 v) (cnd (j.beq (f142_49 v)) (f142_53 v) (v.k j))
noncomputable def f142_37 (v : V142) : Nat → (Int) := fun (j:Nat) => cnd (j.beq (f142_51 v)) (f142_56 v) (cnd (j.beq (f142_49 v)) (f142_55 v) (v.a j))
noncomputable def f142_38 (v : V142) : Nat → (Int) := fun (j:Nat) => cnd (j.beq (f142_51 v)) (f142_58 v) (cnd (j.beq (f142_49 v)) (f142_57 v) (v.b j))
noncomputable def f142_39 (v : V142) : Nat → (Int) := fun (j:Nat) => cnd (j.beq (f142_51 v)) (f142_60 v) (cnd (j.beq (f142_49 v)) (f142_59 v) (v.r j))
noncomputable def f142_40 (v : V142) : Nat → (Int) := fun (j:Nat) => cnd (j.beq (f142_51 v)) (f142_62 v) (cnd (j.beq (f142_49 v)) (f142_61 v) (v.g j))
noncomputable def f142_41 (v : V142) : Nat → (Int) := fun (j:Nat) => cnd (j.beq (f142_51 v)) (f142_64 v) (cnd (j.beq (f142_49 v)) (f142_63 v) (v.s j))
noncomputable def f142_42 (v : V142) : Nat → (Int) := fun (j:Nat) => cnd (j.beq (f142_51 v)) (f142_66 v) (cnd (j.beq (f142_49 v)) (f142_65 v) (v.m j))
noncomputable def f142_43 (v : V142) : Nat → (Int) := fun (j:Nat) => cnd (j.beq (f142_51 v)) (f142_68 v) (cnd (j.beq (f142_49 v)) (f142_67 v) (v.d j))
theorem n_f142_0 (v : V142) : f142_0 v := by
 unfold f142_0
 (repeat' first | intro _ | apply And.intro) <;> first | rfl | exact absurd (by assumption) (Nat.not_lt_zero _) | exact scpL_rowSet (by rfl) (by rfl) | exact scpL_rowEl (by kernel_rfl) _ | omega | decide
theorem n_f142_1 (v : V142) : f142_1 v := by
 unfold f142_1
 (repeat' first | intro _ | apply And.intro) <;> first | rfl | exact absurd (by assumption) (Nat.not_lt_zero _) | exact scpL_rowSet (by rfl) (by rfl) | exact scpL_rowEl (by kernel_rfl) _ | omega | decide
theorem n_f142_3 (v : V142) : f142_3 v := by
 unfold f142_3
 (repeat' first | intro _ | apply And.intro) <;> first | rfl | exact absurd (by assumption) (Nat.not_lt_zero _) | exact scpL_rowSet (by rfl) (by rfl) | exact scpL_rowEl (by kernel_rfl) _ | omega | decide
theorem n_f142_4 (v : V142) : f142_4 v := by
 unfold f142_4
 (repeat' first | intro _ | apply And.intro) <;> first | rfl | exact absurd (by assumption) (Nat.not_lt_zero _) | exact scpL_rowSet (by rfl) (by rfl) | exact scpL_rowEl (by kernel_rfl) _ | omega | decide
theorem n_f142_6 (v : V142) : f142_6 v := by
 unfold f142_6
 (repeat' first | intro _ | apply And.intro) <;> first | rfl | exact absurd (by assumption) (Nat.not_lt_zero _) | exact scpL_rowSet (by rfl) (by rfl) | exact scpL_rowEl (by kernel_rfl) _ | omega | decide
theorem n_f142_7 (v : V142) : f142_7 v := by
 unfold f142_7
 (repeat' first | intro _ | apply And.intro) <;> first | rfl | exact absurd (by assumption) (Nat.not_lt_zero _) | exact scpL_rowSet (by rfl) (by rfl) | exact scpL_rowEl (by kernel_rfl) _ | omega | decide
theorem n_f142_9 (v : V142) : f142_9 v := by
 unfold f142_9
 (repeat' first | intro _ | apply And.intro) <;> first | rfl | exact absurd (by assumption) (Nat.not_lt_zero _) | exact scpL_rowSet (by rfl) (by rfl) | exact scpL_rowEl (by kernel_rfl) _ | omega | decide
theorem n_f142_10 (v : V142) : f142_10 v := by
 unfold f142_10
 (repeat' first | intro _ | apply And.intro) <;> first | rfl | exact absurd (by assumption) (Nat.not_lt_zero _) | exact scpL_rowSet (by rfl) (by rfl) | exact scpL_rowEl (by kernel_rfl) _ | omega | decide
theorem n_f142_24 (v : V142) : f142_24 v := by
 unfold f142_24
 (repeat' first | intro _ | apply And.intro) <;> first | rfl | exact absurd (by assumption) (Nat.not_lt_zero _) | exact scpL_rowSet (by rfl) (by rfl) | exact scpL_rowEl (by kernel_rfl) _ | omega | decide
theorem n_f142_34 (v : V142) : f142_34 v := by
 unfold f142_34
 (repeat' first | intro _ | apply And.intro) <;> first | rfl | exact absurd (by assumption) (Nat.not_lt_zero _) | exact scpL_rowSet (by rfl) (by rfl) | exact scpL_rowEl (by kernel_rfl) _ | omega | decide
noncomputable def ff142 (v : V142) : Tr (Fin th.R) := (Tr.need (f142_0 v) (Tr.need (f142_1 v) (Tr.need (f142_2 v) (Tr.need (f142_0 v) (Tr.need (f142_3 v) (Tr.need (f142_4 v) (Tr.need (f142_5 v) (Tr.need (f142_3 v) (Tr.need (f142_6 v) (Tr.need (f142_7 v) (Tr.need (f142_8 v) (Tr.need (f142_9 v) (Tr.need (f142_6 v) (Tr.need (f142_10 v) (Tr.need (f142_11 v) (Tr.need (f142_6 v) (Tr.need (f142_6 v) (Tr.need (f142_10 v) (Tr.need (f142_12 v) (Tr.need (f142_6 v) (Tr.need (f142_13 v) (Tr.need (f142_14 v) (Tr.need (f142_15 v) (Tr.need (f142_16 v) (Tr.need (f142_17 v) (Tr.need (f142_18 v) (Tr.ite (f142_19 v) (Tr.need (f142_0 v) (Tr.leaf ((SV.tup [(SV.agg [SV.int .u64 (v.z), (SV.slc (1) (9:Nat) (0:Nat) (v.L))]), SV.int .i64 (f142_20 v)]), [HO.gone, (HO.row (100:Nat) (9:Nat) (v.Q) (rw9 v.t v.k v.a v.b v.r v.g v.s v.m v.d))], [nat_lit 0]))) (Tr.ite (f142_21 v) (Tr.need (f142_0 v) (Tr.leaf ((SV.tup [(SV.agg [SV.int .u64 (v.z), (SV.slc (1) (9:Nat) (0:Nat) (v.L))]), SV.int .i64 (f142_22 v)]), [HO.gone, (HO.row (100:Nat) (9:Nat) (v.Q) (rw9 v.t v.k v.a v.b v.r v.g v.s v.m v.d))], [nat_lit 0]))) (Tr.ite (f142_23 v) (Tr.need (f142_24 v) (Tr.leaf ((SV.tup [(SV.agg [SV.int .u64 (v.z), (SV.slc (1) (9:Nat) (0:Nat) (v.L))]), (SV.int .i64 (0:Int))]), [(HO.row (100:Nat) (9:Nat) (v.Q) (rw9 v.t v.k v.a v.b v.r v.g v.s v.m v.d)), (HO.row (100:Nat) (9:Nat) (v.L) (rw9 (f142_25 v) (f142_26 v) (f142_27 v) (f142_28 v) (f142_29 v) (f142_30 v) (f142_31 v) (f142_32 v) (f142_33 v)))], [nat_lit 0, 2, 3, 3, 3, 1, (0:Nat)]))) (Tr.need (f142_34 v) (Tr.leaf ((SV.tup [(SV.agg [SV.int .u64 (v.z), (SV.slc (1) (9:Nat) (0:Nat) (v.L))]), (SV.int .i64 (0:Int))]), [(HO.row (100:Nat) (9:Nat) (v.Q) (rw9 v.t v.k v.a v.b v.r v.g v.s v.m v.d)), (HO.row (100:Nat) (9:Nat) (v.L) (rw9 (f142_35 v) (f142_36 v) (f142_37 v) (f142_38 v) (f142_39 v) (f142_40 v) (f142_41 v) (f142_42 v) (f142_43 v)))], [nat_lit 0, 2, 3, 3, 1, (0:Nat)]))))))))))))))))))))))))))))))))
noncomputable def f142 (v : V142) : Tr (Fin th.R) := (Tr.need (f142_2 v) (Tr.need (f142_5 v) (Tr.need (f142_8 v) (Tr.need (f142_11 v) (Tr.need (f142_12 v) (Tr.need (f142_13 v) (Tr.need (f142_14 v) (Tr.need (f142_15 v) (Tr.need (f142_16 v) (Tr.need (f142_17 v) (Tr.need (f142_18 v) (Tr.ite (f142_19 v) (Tr.leaf ((SV.tup [(SV.agg [SV.int .u64 (v.z), (SV.slc (1) (9:Nat) (0:Nat) (v.L))]), SV.int .i64 (f142_20 v)]), [HO.gone, (HO.row (100:Nat) (9:Nat) (v.Q) (fun j => [SV.int .u64 (v.t j), SV.int .i64 (v.k j), SV.int .u64 (v.a j), SV.int .i64 (v.b j), SV.int .i64 (v.r j), SV.int .i64 (v.g j), SV.int .i64 (v.s j), SV.int .u64 (v.m j), SV.int .i64 (v.d j)]))], [0])) (Tr.ite (f142_21 v) (Tr.leaf ((SV.tup [(SV.agg [SV.int .u64 (v.z), (SV.slc (1) (9:Nat) (0:Nat) (v.L))]), SV.int .i64 (f142_22 v)]), [HO.gone, (HO.row (100:Nat) (9:Nat) (v.Q) (fun j => [SV.int .u64 (v.t j), SV.int .i64 (v.k j), SV.int .u64 (v.a j), SV.int .i64 (v.b j), SV.int .i64 (v.r j), SV.int .i64 (v.g j), SV.int .i64 (v.s j), SV.int .u64 (v.m j), SV.int .i64 (v.d j)]))], [0])) (Tr.ite (f142_23 v) (Tr.leaf ((SV.tup [(SV.agg [SV.int .u64 (v.z), (SV.slc (1) (9:Nat) (0:Nat) (v.L))]), (SV.int .i64 (0:Int))]), [(HO.row (100:Nat) (9:Nat) (v.Q) (fun j => [SV.int .u64 (v.t j), SV.int .i64 (v.k j), SV.int .u64 (v.a j), SV.int .i64 (v.b j), SV.int .i64 (v.r j), SV.int .i64 (v.g j), SV.int .i64 (v.s j), SV.int .u64 (v.m j), SV.int .i64 (v.d j)])), (HO.row (100:Nat) (9:Nat) (v.L) (fun j => [SV.int .u64 (f142_25 v j), SV.int .i64 (f142_26 v j), SV.int .u64 (f142_27 v j), SV.int .i64 (f142_28 v j), SV.int .i64 (f142_29 v j), SV.int .i64 (f142_30 v j), SV.int .i64 (f142_31 v j), SV.int .u64 (f142_32 v j), SV.int .i64 (f142_33 v j)]))], [0])) (Tr.leaf ((SV.tup [(SV.agg [SV.int .u64 (v.z), (SV.slc (1) (9:Nat) (0:Nat) (v.L))]), (SV.int .i64 (0:Int))]), [(HO.row (100:Nat) (9:Nat) (v.Q) (fun j => [SV.int .u64 (v.t j), SV.int .i64 (v.k j), SV.int .u64 (v.a j), SV.int .i64 (v.b j), SV.int .i64 (v.r j), SV.int .i64 (v.g j), SV.int .i64 (v.s j), SV.int .u64 (v.m j), SV.int .i64 (v.d j)])), (HO.row (100:Nat) (9:Nat) (v.L) (fun j => [SV.int .u64 (f142_35 v j), SV.int .i64 (f142_36 v j), SV.int .u64 (f142_37 v j), SV.int .i64 (f142_38 v j), SV.int .i64 (f142_39 v j), SV.int .i64 (f142_40 v j), SV.int .i64 (f142_41 v j), SV.int .u64 (f142_42 v j), SV.int .i64 (f142_43 v j)]))], [0]))))))))))))))))
noncomputable def C142 : CF th.R := fnC d142 ofV142 (f142 )
theorem q142 (v : V142) : (normC (evFn th Try.prog (auto th Try.prog nice140n [] 20) (autoH [] [] [] [999998] : Hints th) 142)) (A142 v) (H142 v) = some (ff142 v) := by kernel_rfl
theorem qg142 (v : V142) : ((ff142 v).map (setD [0])).get = (f142 v).get := by kernel_rfl
theorem qd142 (v : V142) : allD 1 [0] (ff142 v) = true := by kernel_rfl
theorem s142 : Sound Try.prog th 142 (C142 ) := fnC_sound (normC_sound (evFn_sound' (T := th) (P := Try.prog) (tbl := (auto th Try.prog nice140n [] 20)) (auto_sound (nice := nice140n) (us := []) nok140n 20) (H := (autoH [] [] [] [999998] : Hints th)) (k := 142) (fnLoops (LoopsOk_mem (fun _ => rfl) _ fun _ _ _ e => by cases e)))) d142 A142 H142 toV142 (by kernel_rfl) (fun v => by kernel_rfl)
 (fun l v h => by
  unfold ofV142 at h
  split at h
  ·cases h; rfl
  ·cases h)
 [0] (fun v => ⟨ff142 v, q142 v, fun h => by
  unfold f142 at h; unfold ff142
  simp only [Tr.ok, n_f142_0, n_f142_1, n_f142_3, n_f142_4, n_f142_6, n_f142_7, n_f142_9, n_f142_10, n_f142_24, n_f142_34, true_and, and_true, forall_const, implies_true] at h ⊢
  try exact h, qg142 v, qd142 v⟩)
theorem qdd142 (v : V142) : (f142 v).get.2.2 = [0] := by
 rw [← qg142, Tr.map_get]; rfl
set_option maxRecDepth 100000
structure V141 where
 z : Int
 L : Nat
 a_ : Int
 b_ : Int
 Q : Nat
 t : Nat → Int
 k : Nat → Int
 a : Nat → Int
 b : Nat → Int
 r : Nat → Int
 g : Nat → Int
 s : Nat → Int
 m : Nat → Int
 d : Nat → Int
def A141 (v : V141) : List SV := [.agg [.int .u64 v.z, .slc 0 9 0 v.L], .int .u64 v.a_, .int .u64 v.b_]
def H141 (v : V141) : List (HO th.R) := [.row 100 9 v.Q (rw9 v.t v.k v.a v.b v.r v.g v.s v.m v.d)]
def toV141 (v : V141) : List (Vl th.R) := [.i v.z, .n v.L, .i v.a_, .i v.b_, .n v.Q, .c v.t, .c v.k, .c v.a, .c v.b, .c v.r, .c v.g, .c v.s, .c v.m, .c v.d]
def ofV141 : List (Vl th.R) → Option V141
 | [.i z, .n L, .i a_, .i b_, .n Q, .c t, .c k, .c a, .c b, .c r, .c g, .c s, .c m, .c d] => some ⟨z, L, a_, b_, Q, t, k, a, b, r, g, s, m, d⟩
 | _ => none
def d141 : Ft := ⟨[.agg [.int .u64, .slc0 0 9], .int .u64, .int .u64], [.rowc 100 [.int .u64, .int .i64, .int .u64, .int .i64, .int .i64, .int .i64, .int .i64, .int .u64, .int .i64]]⟩
noncomputable def f141_27 (v : V141) : (Int) := hdT v.z (nds (ndf v.t v.k v.a v.b v.r v.g v.s v.m v.d) v.L) v.a_
noncomputable def f141_28 (v : V141) : (Bool) := f141_27 v != (0:Int)
noncomputable def f141_29 (v : V141) : (Int) := cnd (v.b_.tmod (32:Int) != (0:Int)) (13:Int) (cnd (decide (v.b_ ≥ v.z)) (12:Int) (0:Int))
noncomputable def f141_30 (v : V141) : (Bool) := f141_29 v != (0:Int)
noncomputable def f141_31 (v : V141) : (Int) := fnd (nds (ndf v.t v.k v.a v.b v.r v.g v.s v.m v.d) v.L) v.b_
noncomputable def f141_32 (v : V141) : (Int) := cnd (f141_30 v) (f141_29 v) (cnd (v.b_ == (0:Int)) (12:Int) (cnd (decide (f141_31 v ≥ (0:Int))) (16:Int) (0:Int)))
noncomputable def f141_33 (v : V141) : (Bool) := f141_32 v != (0:Int)
noncomputable def f141_34 (v : V141) : (Int) := fnd (nds (ndf v.t v.k v.a v.b v.r v.g v.s v.m v.d) v.L) v.a_
noncomputable def f141_35 (v : V141) : (Nat) := (0:Nat) + (f141_34 v).toNat
noncomputable def f141_0 (v : V141) : (Prop) := ∀ (i:Nat), scpL (0:Nat) ((rw9 v.t v.k v.a v.b v.r v.g v.s v.m v.d) i) = true
noncomputable def f141_1 (v : V141) : (Prop) := ∀ (i:Nat), i < v.Q → (rw9 v.t v.k v.a v.b v.r v.g v.s v.m v.d) i = elC (rw9 v.t v.k v.a v.b v.r v.g v.s v.m v.d) (0:Nat) ck9 i
noncomputable def f141_2 (v : V141) : (Prop) := pre183 (V183.mk v.z v.L v.a_ v.Q v.t v.k v.a v.b v.r v.g v.s v.m v.d)
noncomputable def f141_3 (v : V141) : (Prop) := f141_28 v = false → ∀ (i:Nat), scpL (0:Nat) ((rw9 v.t v.k v.a v.b v.r v.g v.s v.m v.d) i) = true
noncomputable def f141_4 (v : V141) : (Prop) := f141_28 v = false → (32:Int) ≠ (0:Int)
noncomputable def f141_5 (v : V141) : (Prop) := f141_28 v = false → f141_30 v = false → (v.b_ == (0:Int)) = false → ∀ (i:Nat), scpL (0:Nat) ((rw9 v.t v.k v.a v.b v.r v.g v.s v.m v.d) i) = true
noncomputable def f141_6 (v : V141) : (Prop) := f141_28 v = false → f141_30 v = false → (v.b_ == (0:Int)) = false → ∀ (i:Nat), i < v.Q → (rw9 v.t v.k v.a v.b v.r v.g v.s v.m v.d) i = elC (rw9 v.t v.k v.a v.b v.r v.g v.s v.m v.d) (0:Nat) ck9 i
noncomputable def f141_7 (v : V141) : (Prop) := f141_28 v = false → f141_30 v = false → (v.b_ == (0:Int)) = false → pre69 (V69.mk v.z v.L v.b_ v.Q v.t v.k v.a v.b v.r v.g v.s v.m v.d)
noncomputable def f141_8 (v : V141) : (Prop) := f141_28 v = false → f141_33 v = false → ∀ (i:Nat), scpL (0:Nat) ((rw9 v.t v.k v.a v.b v.r v.g v.s v.m v.d) i) = true
noncomputable def f141_9 (v : V141) : (Prop) := f141_28 v = false → f141_33 v = false → ∀ (i:Nat), i < v.Q → (rw9 v.t v.k v.a v.b v.r v.g v.s v.m v.d) i = elC (rw9 v.t v.k v.a v.b v.r v.g v.s v.m v.d) (0:Nat) ck9 i
noncomputable def f141_10 (v : V141) : (Prop) := f141_28 v = false → f141_33 v = false → pre184 (V184.mk v.z v.L v.Q v.t v.k v.a v.b v.r v.g v.s v.m v.d)
noncomputable def f141_11 (v : V141) : (Prop) := f141_28 v = false → f141_33 v = false → (∀ (i:Nat), scpL (0:Nat) ((rw9 v.t v.k v.a v.b v.r v.g v.s v.m v.d) i) = true) ∧ ∀ (i:Nat), scpL (0:Nat) ((rw9 v.t v.k v.a v.b v.r v.g v.s v.m v.d) i) = true
noncomputable def f141_12 (v : V141) : (Prop) := f141_28 v = false → f141_33 v = false → (true = true → (∀ (i:Nat), scpL (0:Nat) ((rw9 v.t v.k v.a v.b v.r v.g v.s v.m v.d) i) = true) ∧ (∀ (i:Nat), i < v.L → (rw9 v.t v.k v.a v.b v.r v.g v.s v.m v.d) i = elC (rw9 v.t v.k v.a v.b v.r v.g v.s v.m v.d) (0:Nat) ck9 i) ∧ pre69 (V69.mk v.z v.L v.a_ v.L v.t v.k v.a v.b v.r v.g v.s v.m v.d) ∧ ∀ (i:Nat), scpL (0:Nat) ((rw9 v.t v.k v.a v.b v.r v.g v.s v.m v.d) i) = true) ∧ (true = true → (0:Int) ≤ f141_34 v ∧ f141_34 v < (↑v.L:Int)) ∧ f141_35 v < v.L ∧ (9:Nat) = (9:Nat)
noncomputable def f141_13 (v : V141) : (Bool) := f141_28 v
noncomputable def f141_14 (v : V141) : (Int) := f141_27 v
noncomputable def f141_15 (v : V141) : (Bool) := f141_33 v
noncomputable def f141_16 (v : V141) : (Int) := f141_32 v
noncomputable def f141_17 (v : V141) : (Prop) := (∀ (i:Nat), scpL (0:Nat) ((rw9 v.t v.k v.a v.b v.r v.g v.s v.m v.d) i) = true) ∧ ∀ (i:Nat), scpL (0:Nat) ((fun (j:Nat) => rowSet (j.beq (f141_35 v)) (splice ((rw9 v.t v.k v.a v.b v.r v.g v.s v.m v.d) (f141_35 v)) (0:Nat) (SV.int IntKind.u64 v.b_).cells) ((rw9 v.t v.k v.a v.b v.r v.g v.s v.m v.d) j)) i) = true
noncomputable def f141_18 (v : V141) : Nat → (Int) := fun (j:Nat) => cnd (j.beq (f141_35 v)) v.b_ (v.t j)
noncomputable def f141_19 (v : V141) : Nat → (Int) := fun (j:Nat) => cnd (j.beq (f141_35 v)) (v.k (f141_35 v)) (v.k j)
noncomputable def f141_20 (v : V141) : Nat → (Int) := fun (j:Nat) => cnd (j.beq (f141_35 v)) (v.a (f141_35 v)) (v.a j)
noncomputable def f141_21 (v : V141) : Nat → (Int) := fun (j:Nat) => cnd (j.beq (f141_35 v)) (v.b (f141_35 v)) (v.b j)
noncomputable def f141_22 (v : V141) : Nat → (Int) := fun (j:Nat) => cnd (j.beq (f141_35 v)) (v.r (f141_35 v)) (v.r j)
noncomputable def f141_23 (v : V141) : Nat → (Int) := fun (j:Nat) => cnd (j.beq (f141_35 v)) (v.g (f141_35 v)) (v.g j)
noncomputable def f141_24 (v : V141) : Nat → (Int) := fun (j:Nat) => cnd (j.beq (f141_35 v)) (v.s (f141_35 v)) (v.s j)
noncomputable def f141_25 (v : V141) : Nat → (Int) := fun (j:Nat) => cnd (j.beq (f141_35 v)) (v.m (f141_35 v)) (v.m j)
noncomputable def f141_26 (v : V141) : Nat → (Int) := fun (j:Nat) => cnd (j.beq (f141_35 v)) (v.d (f141_35 v)) (v.d j)
theorem n_f141_0 (v : V141) : f141_0 v := by
 unfold f141_0
 (repeat' first | intro _ | apply And.intro) <;> first | rfl | exact absurd (by assumption) (Nat.not_lt_zero _) | exact scpL_rowSet (by rfl) (by rfl) | exact scpL_rowEl (by kernel_rfl) _ | omega | decide
theorem n_f141_1 (v : V141) : f141_1 v := by
 unfold f141_1
 (repeat' first | intro _ | apply And.intro) <;> first | rfl | exact absurd (by assumption) (Nat.not_lt_zero _) | exact scpL_rowSet (by rfl) (by rfl) | exact scpL_rowEl (by kernel_rfl) _ | omega | decide
theorem n_f141_3 (v : V141) : f141_3 v := by
 unfold f141_3
 (repeat' first | intro _ | apply And.intro) <;> first | rfl | exact absurd (by assumption) (Nat.not_lt_zero _) | exact scpL_rowSet (by rfl) (by rfl) | exact scpL_rowEl (by kernel_rfl) _ | omega | decide
theorem n_f141_4 (v : V141) : f141_4 v := by
 unfold f141_4
 (repeat' first | intro _ | apply And.intro) <;> first | rfl | exact absurd (by assumption) (Nat.not_lt_zero _) | exact scpL_rowSet (by rfl) (by rfl) | exact scpL_rowEl (by kernel_rfl) _ | omega | decide
theorem n_f141_5 (v : V141) : f141_5 v := by
 unfold f141_5
 (repeat' first | intro _ | apply And.intro) <;> first | rfl | exact absurd (by assumption) (Nat.not_lt_zero _) | exact scpL_rowSet (by rfl) (by rfl) | exact scpL_rowEl (by kernel_rfl) _ | omega | decide
theorem n_f141_6 (v : V141) : f141_6 v := by
 unfold f141_6
 (repeat' first | intro _ | apply And.intro) <;> first | rfl | exact absurd (by assumption) (Nat.not_lt_zero _) | exact scpL_rowSet (by rfl) (by rfl) | exact scpL_rowEl (by kernel_rfl) _ | omega | decide
theorem n_f141_8 (v : V141) : f141_8 v := by
 unfold f141_8
 (repeat' first | intro _ | apply And.intro) <;> first | rfl | exact absurd (by assumption) (Nat.not_lt_zero _) | exact scpL_rowSet (by rfl) (by rfl) | exact scpL_rowEl (by kernel_rfl) _ | omega | decide
theorem n_f141_9 (v : V141) : f141_9 v := by
 unfold f141_9
 (repeat' first | intro _ | apply And.intro) <;> first | rfl | exact absurd (by assumption) (Nat.not_lt_zero _) | exact scpL_rowSet (by rfl) (by rfl) | exact scpL_rowEl (by kernel_rfl) _ | omega | decide
theorem n_f141_11 (v : V141) : f141_11 v := by
 unfold f141_11
 (repeat' first | intro _ | apply And.intro) <;> first | rfl | exact absurd (by assumption) (Nat.not_lt_zero _) | exact scpL_rowSet (by rfl) (by rfl) | exact scpL_rowEl (by kernel_rfl) _ | omega | decide
theorem n_f141_17 (v : V141) : f141_17 v := by
 unfold f141_17
 (repeat' first | intro _ | apply And.intro) <;> first | rfl | exact absurd (by assumption) (Nat.not_lt_zero _) | exact scpL_rowSet (by rfl) (by rfl) | exact scpL_rowEl (by kernel_rfl) _ | omega | decide
noncomputable def ff141 (v : V141) : Tr (Fin th.R) := (Tr.need (f141_0 v) (Tr.need (f141_1 v) (Tr.need (f141_2 v) (Tr.need (f141_0 v) (Tr.need (f141_3 v) (Tr.need (f141_3 v) (Tr.need (f141_4 v) (Tr.need (f141_3 v) (Tr.need (f141_5 v) (Tr.need (f141_6 v) (Tr.need (f141_7 v) (Tr.need (f141_5 v) (Tr.need (f141_3 v) (Tr.need (f141_8 v) (Tr.need (f141_9 v) (Tr.need (f141_10 v) (Tr.need (f141_11 v) (Tr.need (f141_12 v) (Tr.ite (f141_13 v) (Tr.need (f141_0 v) (Tr.leaf ((SV.tup [(SV.agg [SV.int .u64 (v.z), (SV.slc (1) (9:Nat) (0:Nat) (v.L))]), SV.int .i64 (f141_14 v)]), [HO.gone, (HO.row (100:Nat) (9:Nat) (v.Q) (rw9 v.t v.k v.a v.b v.r v.g v.s v.m v.d))], [nat_lit 0]))) (Tr.ite (f141_15 v) (Tr.need (f141_0 v) (Tr.leaf ((SV.tup [(SV.agg [SV.int .u64 (v.z), (SV.slc (1) (9:Nat) (0:Nat) (v.L))]), SV.int .i64 (f141_16 v)]), [HO.gone, (HO.row (100:Nat) (9:Nat) (v.Q) (rw9 v.t v.k v.a v.b v.r v.g v.s v.m v.d))], [nat_lit 0]))) (Tr.need (f141_17 v) (Tr.leaf ((SV.tup [(SV.agg [SV.int .u64 (v.z), (SV.slc (1) (9:Nat) (0:Nat) (v.L))]), (SV.int .i64 (0:Int))]), [(HO.row (100:Nat) (9:Nat) (v.Q) (rw9 v.t v.k v.a v.b v.r v.g v.s v.m v.d)), (HO.row (100:Nat) (9:Nat) (v.L) (rw9 (f141_18 v) (f141_19 v) (f141_20 v) (f141_21 v) (f141_22 v) (f141_23 v) (f141_24 v) (f141_25 v) (f141_26 v)))], [nat_lit 0, 2, 3, 1, (0:Nat)])))))))))))))))))))))))
noncomputable def f141 (v : V141) : Tr (Fin th.R) := (Tr.need (f141_2 v) (Tr.need (f141_7 v) (Tr.need (f141_10 v) (Tr.need (f141_12 v) (Tr.ite (f141_13 v) (Tr.leaf ((SV.tup [(SV.agg [SV.int .u64 (v.z), (SV.slc (1) (9:Nat) (0:Nat) (v.L))]), SV.int .i64 (f141_14 v)]), [HO.gone, (HO.row (100:Nat) (9:Nat) (v.Q) (fun j => [SV.int .u64 (v.t j), SV.int .i64 (v.k j), SV.int .u64 (v.a j), SV.int .i64 (v.b j), SV.int .i64 (v.r j), SV.int .i64 (v.g j), SV.int .i64 (v.s j), SV.int .u64 (v.m j), SV.int .i64 (v.d j)]))], [0])) (Tr.ite (f141_15 v) (Tr.leaf ((SV.tup [(SV.agg [SV.int .u64 (v.z), (SV.slc (1) (9:Nat) (0:Nat) (v.L))]), SV.int .i64 (f141_16 v)]), [HO.gone, (HO.row (100:Nat) (9:Nat) (v.Q) (fun j => [SV.int .u64 (v.t j), SV.int .i64 (v.k j), SV.int .u64 (v.a j), SV.int .i64 (v.b j), SV.int .i64 (v.r j), SV.int .i64 (v.g j), SV.int .i64 (v.s j), SV.int .u64 (v.m j), SV.int .i64 (v.d j)]))], [0])) (Tr.leaf ((SV.tup [(SV.agg [SV.int .u64 (v.z), (SV.slc (1) (9:Nat) (0:Nat) (v.L))]), (SV.int .i64 (0:Int))]), [(HO.row (100:Nat) (9:Nat) (v.Q) (fun j => [SV.int .u64 (v.t j), SV.int .i64 (v.k j), SV.int .u64 (v.a j), SV.int .i64 (v.b j), SV.int .i64 (v.r j), SV.int .i64 (v.g j), SV.int .i64 (v.s j), SV.int .u64 (v.m j), SV.int .i64 (v.d j)])), (HO.row (100:Nat) (9:Nat) (v.L) (fun j => [SV.int .u64 (f141_18 v j), SV.int .i64 (f141_19 v j), SV.int .u64 (f141_20 v j), SV.int .i64 (f141_21 v j), SV.int .i64 (f141_22 v j), SV.int .i64 (f141_23 v j), SV.int .i64 (f141_24 v j), SV.int .u64 (f141_25 v j), SV.int .i64 (f141_26 v j)]))], [0]))))))))
noncomputable def C141 : CF th.R := fnC d141 ofV141 (f141 )
theorem q141 (v : V141) : (normC (evFn th Try.prog (auto th Try.prog nice140n [] 20) (autoH [] [] [] [] : Hints th) 141)) (A141 v) (H141 v) = some (ff141 v) := by kernel_rfl
theorem qg141 (v : V141) : ((ff141 v).map (setD [0])).get = (f141 v).get := by kernel_rfl
theorem qd141 (v : V141) : allD 1 [0] (ff141 v) = true := by kernel_rfl
theorem s141 : Sound Try.prog th 141 (C141 ) := fnC_sound (normC_sound (evFn_sound' (T := th) (P := Try.prog) (tbl := (auto th Try.prog nice140n [] 20)) (auto_sound (nice := nice140n) (us := []) nok140n 20) (H := (autoH [] [] [] [] : Hints th)) (k := 141) (fnLoops (LoopsOk_mem (fun _ => rfl) _ fun _ _ _ e => by cases e)))) d141 A141 H141 toV141 (by kernel_rfl) (fun v => by kernel_rfl)
 (fun l v h => by
  unfold ofV141 at h
  split at h
  ·cases h; rfl
  ·cases h)
 [0] (fun v => ⟨ff141 v, q141 v, fun h => by
  unfold f141 at h; unfold ff141
  simp only [Tr.ok, n_f141_0, n_f141_1, n_f141_3, n_f141_4, n_f141_5, n_f141_6, n_f141_8, n_f141_9, n_f141_11, n_f141_17, true_and, and_true, forall_const, implies_true] at h ⊢
  try exact h, qg141 v, qd141 v⟩)
theorem qdd141 (v : V141) : (f141 v).get.2.2 = [0] := by
 rw [← qg141, Tr.map_get]; rfl
set_option maxRecDepth 100000
def pre141 (v : V141) : Prop := (v.Q = v.L ∧ v.L ≤ 100000)
theorem n141 (v : V141) (h : pre141 v) : (f141 v).ok ∧ (f141 v).get.1 = .tup [.agg [.int .u64 v.z, .slc 1 9 0 (mvL v.z (nds (ndf v.t v.k v.a v.b v.r v.g v.s v.m v.d) v.L) v.a_ v.b_).length], .int .i64 (mvR v.z (nds (ndf v.t v.k v.a v.b v.r v.g v.s v.m v.d) v.L) v.a_ v.b_)] ∧ HOws (f141 v).get.2.1 [HO.gone, rowN (mvL v.z (nds (ndf v.t v.k v.a v.b v.r v.g v.s v.m v.d) v.L) v.a_ v.b_)] := by
 have hQ : v.Q = v.L := h.1
 have hL : v.L ≤ 100000 := h.2
 have e34 : f141_34 v = fnd (nds (ndf v.t v.k v.a v.b v.r v.g v.s v.m v.d) v.L) v.a_ := rfl
 have h0 : f141_28 v = false → 0 ≤ f141_34 v ∧ f141_34 v < v.L ∧ f141_35 v = (f141_34 v).toNat := fun e => by
  obtain ⟨h1, h2⟩ := hdT_fnd (f := ndf v.t v.k v.a v.b v.r v.g v.s v.m v.d) (L := v.L) (by simpa [f141_28, f141_27] using e)
  exact ⟨h1, h2, by unfold f141_35; omega⟩
 have e28 : (hdT v.z (nds (ndf v.t v.k v.a v.b v.r v.g v.s v.m v.d) v.L) v.a_ != 0) = f141_28 v := rfl
 have e32 : frT v.z (nds (ndf v.t v.k v.a v.b v.r v.g v.s v.m v.d) v.L) v.b_ = f141_32 v := rfl
 have e33 : (f141_32 v != 0) = f141_33 v := rfl
 refine ⟨⟨h, fun _ _ _ => h, fun _ _ => h, fun e _ => ⟨fun _ => ⟨fun _ => rfl, fun _ _ => rfl, ⟨rfl, hL⟩, fun _ => rfl⟩, fun _ => ⟨(h0 e).1, (h0 e).2.1⟩, by rw [(h0 e).2.2]; have := h0 e; omega, rfl⟩, fun _ => trivial, fun _ => ⟨fun _ => trivial, fun _ => trivial⟩⟩, ?_, ?_⟩
 ·simp only [f141, Tr.get, f141_13, f141_14, f141_15, f141_16, mvL, mvR]
  rw [e28, e32, e33]
  cases hz : f141_28 v with
  | true => simp only [cnd_t, nds_len]; rfl
  | false =>
   cases hy : f141_33 v with
   | true => simp only [cnd_t, cnd_f, nds_len]
   | false => simp only [cnd_f, List.length_set, nds_len]
 ·simp only [f141, Tr.get, f141_13, f141_15, mvL]
  rw [e28, e32, e33]
  cases hz : f141_28 v with
  | true => exact .cons (.inl rfl) (.cons (rowA hQ) .nil)
  | false =>
   obtain ⟨q1, q2, q3⟩ := h0 hz
   cases hy : f141_33 v with
   | true => exact .cons (.inl rfl) (.cons (rowA hQ) .nil)
   | false =>
    refine .cons (.inr (.inl rfl)) (.cons (rowN_of (by simp [cnd, nds_len]) fun j hj => ?_) .nil)
    simp only [cnd_f]
    have hi : (fnd (nds (ndf v.t v.k v.a v.b v.r v.g v.s v.m v.d) v.L) v.a_).toNat < v.L := by rw [← e34]; omega
    rw [gN_set (by rw [nds_len]; exact hi), ← e34, ← q3]
    simp only [f141_18, f141_19, f141_20, f141_21, f141_22, f141_23, f141_24, f141_25, f141_26]
    have hat : atN (nds (ndf v.t v.k v.a v.b v.r v.g v.s v.m v.d) v.L) v.a_ = ndf v.t v.k v.a v.b v.r v.g v.s v.m v.d (f141_35 v) := by
     unfold atN
     rw [gN_nds hi, ← e34, q3]
    rw [hat]
    by_cases hj2 : j = f141_35 v
    ·have hb : Nat.beq j (f141_35 v) = true := by rw [beqT]; exact hj2
     simp only [hb, cnd_t, if_pos hj2]
     rfl
    ·have hb : Nat.beq j (f141_35 v) = false := by
      cases hh : Nat.beq j (f141_35 v) with
      | false => rfl
      | true => rw [beqT] at hh; exact absurd hh hj2
     have hjL : j < v.L := by simpa [cnd, nds_len] using hj
     simp only [hb, cnd_f, if_neg hj2, gN_nds hjL]
     rfl
noncomputable def f141n (v : V141) : Tr (Fin th.R) := .need (pre141 v) (.leaf (.tup [.agg [.int .u64 v.z, .slc 1 9 0 (mvL v.z (nds (ndf v.t v.k v.a v.b v.r v.g v.s v.m v.d) v.L) v.a_ v.b_).length], .int .i64 (mvR v.z (nds (ndf v.t v.k v.a v.b v.r v.g v.s v.m v.d) v.L) v.a_ v.b_)], [.gone, rowN (mvL v.z (nds (ndf v.t v.k v.a v.b v.r v.g v.s v.m v.d) v.L) v.a_ v.b_)], [0]))
theorem s141n : Sound Try.prog th 141 (fnC d141 ofV141 f141n) := fnC_refine s141 fun v h => by
 obtain ⟨hp, _⟩ := h
 obtain ⟨a, b, c⟩ := n141 v hp
 exact ⟨a, b.symm, (qdd141 v).symm, c, by show 1 ≤ 2; decide⟩
noncomputable def nice141n : List (Nat × CF th.R) := (141, lift (fnC d141 ofV141 f141n)) :: nice140n
theorem nok141n : NiceOk Try.prog th nice141n := ⟨lift_sound s141n, nok140n⟩
set_option maxRecDepth 100000
structure V66 where
 z : Int
 L : Nat
 at_ : Int
 Q : Nat
 t : Nat → Int
 k : Nat → Int
 a : Nat → Int
 b : Nat → Int
 r : Nat → Int
 g : Nat → Int
 s : Nat → Int
 m : Nat → Int
 d : Nat → Int
def A66 (v : V66) : List SV := [.agg [.int .u64 v.z, .slc 0 9 0 v.L], .int .u64 v.at_]
def H66 (v : V66) : List (HO th.R) := [.row 100 9 v.Q (rw9 v.t v.k v.a v.b v.r v.g v.s v.m v.d)]
def toV66 (v : V66) : List (Vl th.R) := [.i v.z, .n v.L, .i v.at_, .n v.Q, .c v.t, .c v.k, .c v.a, .c v.b, .c v.r, .c v.g, .c v.s, .c v.m, .c v.d]
def ofV66 : List (Vl th.R) → Option V66
 | [.i z, .n L, .i at_, .n Q, .c t, .c k, .c a, .c b, .c r, .c g, .c s, .c m, .c d] => some ⟨z, L, at_, Q, t, k, a, b, r, g, s, m, d⟩
 | _ => none
def d66 : Ft := ⟨[.agg [.int .u64, .slc0 0 9], .int .u64], [.rowc 100 [.int .u64, .int .i64, .int .u64, .int .i64, .int .i64, .int .i64, .int .i64, .int .u64, .int .i64]]⟩
structure P66_0 where
 x6 : Int
 N0 : Nat
 F0_0 : Nat → Int
 F0_1 : Nat → Int
 F0_2 : Nat → Int
 F0_3 : Nat → Int
 F0_4 : Nat → Int
 F0_5 : Nat → Int
 F0_6 : Nat → Int
 F0_7 : Nat → Int
 F0_8 : Nat → Int
 xh1_0 : Int
 nh1_1 : Nat
structure S66_0 where
 n5 : Nat
 x7 : Int
 N2 : Nat
 F2_0 : Nat → Int
noncomputable instance : Inhabited S66_0 := ⟨⟨0, 0, 0, fun _ => 0⟩⟩
def I66_0 (p : P66_0) (s : S66_0) : St th.R := ⟨[none, none, some (.ptr 1 0), none, none, some (.slc 2 1 0 s.n5), some (.int .i64 p.x6), some (.int .i64 s.x7), none, none, none, none, none, none, none, none, none, none, none, none, none, none, none, none, none, none, none, none, none, none, none, none, none, none, none, none, none, none, none, none, none, none, none, none, none, none, none, none], [.row 100 9 p.N0 (rw9 p.F0_0 p.F0_1 p.F0_2 p.F0_3 p.F0_4 p.F0_5 p.F0_6 p.F0_7 p.F0_8), .cells 55 [.int .u64 p.xh1_0, .slc 0 9 0 p.nh1_1], .row 22 1 s.N2 (fun j => [.int .u64 (s.F2_0 j)])], [], []⟩
def d66_0 : Lp := ⟨⟨48, [(2, .ptr 1 0), (5, .slc0 2 1), (6, .int .i64), (7, .int .i64)], [.rowc 100 [.int .u64, .int .i64, .int .u64, .int .i64, .int .i64, .int .i64, .int .i64, .int .u64, .int .i64], .cells 55 [.int .u64, .slc0 0 9], .rowc 22 [.int .u64]]⟩, [⟨5, 22, 1⟩], 2, [], [5], []⟩
def toV66_0 (p : P66_0) (s : S66_0) : List (Vl th.R) := [.n s.n5, .i p.x6, .i s.x7, .n p.N0, .c p.F0_0, .c p.F0_1, .c p.F0_2, .c p.F0_3, .c p.F0_4, .c p.F0_5, .c p.F0_6, .c p.F0_7, .c p.F0_8, .i p.xh1_0, .n p.nh1_1, .n s.N2, .c s.F2_0]
def ofV66_0 : List (Vl th.R) → Option (P66_0 × S66_0)
 | [.n n5, .i x6, .i x7, .n N0, .c F0_0, .c F0_1, .c F0_2, .c F0_3, .c F0_4, .c F0_5, .c F0_6, .c F0_7, .c F0_8, .i xh1_0, .n nh1_1, .n N2, .c F2_0] => some (⟨x6, N0, F0_0, F0_1, F0_2, F0_3, F0_4, F0_5, F0_6, F0_7, F0_8, xh1_0, nh1_1⟩, ⟨n5, x7, N2, F2_0⟩)
 | _ => none
noncomputable def e66_0_10 (p : P66_0) (s : S66_0) : (Nat) := (0:Nat) + s.x7.toNat
noncomputable def e66_0_11 (p : P66_0) (s : S66_0) : (Nat) := (0:Nat) + p.x6.toNat
noncomputable def e66_0_12 (p : P66_0) (s : S66_0) : (Int) := p.F0_8 (e66_0_10 p s)
noncomputable def e66_0_13 (p : P66_0) (s : S66_0) : (Int) := p.F0_8 (e66_0_11 p s)
noncomputable def e66_0_14 (p : P66_0) (s : S66_0) : (Nat) := s.n5 + (1:Nat)
noncomputable def e66_0_15 (p : P66_0) (s : S66_0) : (Int) := p.F0_0 (e66_0_10 p s)
noncomputable def e66_0_0 (p : P66_0) (s : S66_0) : (Prop) := (cnd (decide (s.x7 < (↑p.nh1_1:Int))) true false = true → (0:Int) ≤ s.x7 ∧ s.x7 < (↑p.nh1_1:Int)) ∧ (cnd (decide (s.x7 < (↑p.nh1_1:Int))) true false = true → e66_0_10 p s < p.N0) ∧ (cnd (decide (s.x7 < (↑p.nh1_1:Int))) true false = true → (0:Int) ≤ p.x6 ∧ p.x6 < (↑p.nh1_1:Int)) ∧ (cnd (decide (s.x7 < (↑p.nh1_1:Int))) true false = true → e66_0_11 p s < p.N0)
noncomputable def e66_0_1 (p : P66_0) (s : S66_0) : (Bool) := cnd (cnd (decide (s.x7 < (↑p.nh1_1:Int))) (decide (e66_0_12 p s > e66_0_13 p s)) false) false true
noncomputable def e66_0_2 (p : P66_0) (s : S66_0) : (Prop) := (∀ (i:Nat), scpL (0:Nat) ((rw9 p.F0_0 p.F0_1 p.F0_2 p.F0_3 p.F0_4 p.F0_5 p.F0_6 p.F0_7 p.F0_8) i) = true) ∧ ∀ (i:Nat), scpL (0:Nat) ((fun (j:Nat) => [SV.int IntKind.u64 (s.F2_0 j)]) i) = true
noncomputable def e66_0_3 (p : P66_0) (s : S66_0) : (Prop) := (0:Int) ≤ s.x7 ∧ s.x7 < (↑p.nh1_1:Int)
noncomputable def e66_0_4 (p : P66_0) (s : S66_0) : (Prop) := e66_0_10 p s < p.N0
noncomputable def e66_0_5 (p : P66_0) (s : S66_0) : (Prop) := (0:Nat) = (0:Nat) ∧ s.n5 ≤ s.N2 ∧ (1:Nat) ≤ (1:Nat) ∧ e66_0_14 p s * (4096:Nat) ≤ (140737488355328:Nat) ∧ e66_0_14 p s ≤ (9223372036854775807:Nat)
noncomputable def e66_0_6 (p : P66_0) (s : S66_0) : (Prop) := ((∀ (i:Nat), scpL (0:Nat) ((rw9 p.F0_0 p.F0_1 p.F0_2 p.F0_3 p.F0_4 p.F0_5 p.F0_6 p.F0_7 p.F0_8) i) = true) ∧ ∀ (i:Nat), scpL (0:Nat) ((fun (i:Nat) => rowSet (i.blt s.n5) ((fun (j:Nat) => [SV.int IntKind.u64 (s.F2_0 j)]) i) (rowEl (1:Nat) (1:Nat) (setMany (List.map (fun (i:Nat) => [SV.int IntKind.u64 (0:Int)].getD (i % (1:Nat)) Inhabited.default) (List.range (1:Nat))) (0:Nat) (SV.int IntKind.u64 (e66_0_15 p s)).cells) ((0:Nat) + (i - s.n5)))) i) = true) ∧ (∀ (i:Nat), i < p.N0 → (rw9 p.F0_0 p.F0_1 p.F0_2 p.F0_3 p.F0_4 p.F0_5 p.F0_6 p.F0_7 p.F0_8) i = elC (rw9 p.F0_0 p.F0_1 p.F0_2 p.F0_3 p.F0_4 p.F0_5 p.F0_6 p.F0_7 p.F0_8) (0:Nat) ck9 i) ∧ ∀ (i:Nat), i < e66_0_14 p s → (fun (i:Nat) => rowSet (i.blt s.n5) ((fun (j:Nat) => [SV.int IntKind.u64 (s.F2_0 j)]) i) (rowEl (1:Nat) (1:Nat) (setMany (List.map (fun (i:Nat) => [SV.int IntKind.u64 (0:Int)].getD (i % (1:Nat)) Inhabited.default) (List.range (1:Nat))) (0:Nat) (SV.int IntKind.u64 (e66_0_15 p s)).cells) ((0:Nat) + (i - s.n5)))) i = elC (fun (i:Nat) => rowSet (i.blt s.n5) ((fun (j:Nat) => [SV.int IntKind.u64 (s.F2_0 j)]) i) (rowEl (1:Nat) (1:Nat) (setMany (List.map (fun (i:Nat) => [SV.int IntKind.u64 (0:Int)].getD (i % (1:Nat)) Inhabited.default) (List.range (1:Nat))) (0:Nat) (SV.int IntKind.u64 (e66_0_15 p s)).cells) ((0:Nat) + (i - s.n5)))) (0:Nat) [Ck.int IntKind.u64] i
noncomputable def e66_0_7 (p : P66_0) (s : S66_0) : (Nat) := e66_0_14 p s
noncomputable def e66_0_8 (p : P66_0) (s : S66_0) : (Int) := IntKind.i64.wrap (s.x7 + (1:Int))
noncomputable def e66_0_9 (p : P66_0) (s : S66_0) : Nat → (Int) := fun (j:Nat) => cnd (j.blt s.n5) (s.F2_0 j) (e66_0_15 p s)
theorem n_e66_0_2 (p : P66_0) (s : S66_0) : e66_0_2 p s := by
 unfold e66_0_2
 (repeat' first | intro _ | apply And.intro) <;> first | rfl | exact absurd (by assumption) (Nat.not_lt_zero _) | exact scpL_rowSet (by rfl) (by rfl) | exact scpL_rowEl (by kernel_rfl) _ | omega | decide
theorem n_e66_0_6 (p : P66_0) (s : S66_0) : e66_0_6 p s := by
 unfold e66_0_6
 (repeat' first | intro _ | apply And.intro) <;> first | rfl | exact absurd (by assumption) (Nat.not_lt_zero _) | exact scpL_rowSet (by rfl) (by rfl) | exact scpL_rowEl (by kernel_rfl) _ | omega | decide
noncomputable def rf66_0 (p : P66_0) (s : S66_0) : Tr (Rs th.R S66_0) := (Tr.need (e66_0_0 p s) (Tr.ite (e66_0_1 p s) (Tr.need (e66_0_2 p s) (Tr.leaf (Rs.out (Ex.exit (0:Nat)) [none, none, none, none, none, (some (SV.slc (2) (1:Nat) (0:Nat) (s.n5))), none, none, none, none, none, none, none, none, none, none, none, none, none, none, none, none, none, none, none, none, none, none, none, none, none, none, none, none, none, none, none, none, none, none, none, none, none, none, none, none, none, none] [(HO.row (100:Nat) (9:Nat) (p.N0) (rw9 p.F0_0 p.F0_1 p.F0_2 p.F0_3 p.F0_4 p.F0_5 p.F0_6 p.F0_7 p.F0_8)), (HO.cells (55:Nat) [SV.int .u64 (p.xh1_0), (SV.slc (0:Nat) (9:Nat) (0:Nat) (p.nh1_1))]), (HO.row (22:Nat) (1:Nat) (s.N2) (fun j => [SV.int .u64 (s.F2_0 j)]))]))) (Tr.need (e66_0_3 p s) (Tr.need (e66_0_4 p s) (Tr.need (e66_0_5 p s) (Tr.need (e66_0_6 p s) (Tr.leaf (Rs.on (S66_0.mk ((e66_0_7 p s)) ((e66_0_8 p s)) ((e66_0_7 p s)) ((fun j => (e66_0_9 p s j))))))))))))
noncomputable def r66_0 (p : P66_0) (s : S66_0) : Tr (Rs th.R S66_0) := (Tr.need (e66_0_0 p s) (Tr.ite (e66_0_1 p s) (Tr.leaf (Rs.out (Ex.exit (0:Nat)) [none, none, none, none, none, (some (SV.slc (2) (1:Nat) (0:Nat) (s.n5))), none, none, none, none, none, none, none, none, none, none, none, none, none, none, none, none, none, none, none, none, none, none, none, none, none, none, none, none, none, none, none, none, none, none, none, none, none, none, none, none, none, none] [(HO.row (100:Nat) (9:Nat) (p.N0) (rw9 p.F0_0 p.F0_1 p.F0_2 p.F0_3 p.F0_4 p.F0_5 p.F0_6 p.F0_7 p.F0_8)), (HO.cells (55:Nat) [SV.int .u64 (p.xh1_0), (SV.slc (0:Nat) (9:Nat) (0:Nat) (p.nh1_1))]), (HO.row (22:Nat) (1:Nat) (s.N2) (fun j => [SV.int .u64 (s.F2_0 j)]))])) (Tr.need (e66_0_3 p s) (Tr.need (e66_0_4 p s) (Tr.need (e66_0_5 p s) (Tr.leaf (Rs.on (S66_0.mk ((e66_0_7 p s)) ((e66_0_8 p s)) ((e66_0_7 p s)) ((fun j => (e66_0_9 p s j)))))))))))
noncomputable def E66_0 : St th.R → Out th := evCode th Try.prog (auto th Try.prog nice141n [] 20) (autoH [] [] [] [4, 5, 47] : Hints th) (lpAt Try.prog 66 0)
theorem B66_0 : CodeSound th Try.prog (lpAt Try.prog 66 0) E66_0 := evCode_sound (T := th) (P := Try.prog) (tbl := (auto th Try.prog nice141n [] 20)) (auto_sound (nice := nice141n) (us := []) nok141n 20) (autoH [] [] [] [4, 5, 47] : Hints th) _ (LoopsOk_mem (fun _ => rfl) _ fun b hb L hL => by cases hL)
noncomputable def L66_0 : St th.R → Out th := loopL d66_0 ofV66_0 r66_0
theorem h1_66_0 (p : P66_0) (s : S66_0) : bld d66_0.tm (toV66_0 p s) = some (I66_0 p s) := by kernel_rfl
theorem h2_66_0 (l : List (Vl th.R)) (p : P66_0) (s : S66_0) (h : ofV66_0 l = some (p, s)) : l = toV66_0 p s := by
 unfold ofV66_0 at h
 split at h
 ·cases h; rfl
 ·cases h
theorem h3_66_0 (p : P66_0) (s : S66_0) : cvE d66_0 (E66_0 (I66_0 p s)) = some ((rf66_0 p s).map (Rs.map (toV66_0 p))) := by kernel_rfl
theorem h3g_66_0 (p : P66_0) (s : S66_0) : (rf66_0 p s).get = (r66_0 p s).get := by kernel_rfl
theorem h4_66_0 (p : P66_0) (s s1 : S66_0) : outH d66_0.dirt d66_0.n0 (r66_0 p s) = repH (maskH d66_0.dirt 0 d66_0.n0 (I66_0 p s1).heap) (r66_0 p s) := by kernel_rfl
theorem ls66_0 : CodeSound th Try.prog (.loop (lpAt Try.prog 66 0)) L66_0 := loopL_sound B66_0 d66_0 I66_0 toV66_0 (by kernel_rfl) h1_66_0 h2_66_0
 (fun p s => ⟨(rf66_0 p s).map (Rs.map (toV66_0 p)), h3_66_0 p s, fun h => by
  rw [Tr.map_ok]
  unfold r66_0 at h; unfold rf66_0
  simp only [Tr.ok, n_e66_0_2, n_e66_0_6, true_and, and_true, forall_const, implies_true] at h ⊢
  try exact h, by rw [Tr.map_get, h3g_66_0 p s]⟩) h4_66_0
theorem ok66 : LoopsOk th Try.prog (autoH [(6, L66_0)] [] [] [4, 5, 47] : Hints th) (bodyOf Try.prog 66) := autoH_ok (bs := [lpAt Try.prog 66 0]) (by kernel_rfl) fun b hb L hL => by
 simp only [List.mem_cons, List.not_mem_nil, or_false] at hb
 rcases hb with rfl
 ·have e : lookL [(6, L66_0)] (firstReg (lpAt Try.prog 66 0)) = some L66_0 := by kernel_rfl
  rw [e] at hL; cases hL
  exact ls66_0
noncomputable def f66_11 (v : V66) : (Int) := fnd (nds (ndf v.t v.k v.a v.b v.r v.g v.s v.m v.d) v.L) v.at_
noncomputable def f66_12 (v : V66) : (Bool) := decide (f66_11 v < (0:Int))
noncomputable def f66_13 (v : V66) : (S66_0) := S66_0.mk (0:Nat) (IntKind.i64.wrap (f66_11 v + (1:Int))) (0:Nat) (colI (fun (j:Nat) => []) (0:Nat))
noncomputable def f66_14 (v : V66) : (S66_0) := lastS (r66_0 (P66_0.mk (f66_11 v) v.Q v.t v.k v.a v.b v.r v.g v.s v.m v.d v.z v.L)) (f66_13 v)
noncomputable def f66_0 (v : V66) : (Prop) := ∀ (i:Nat), scpL (0:Nat) ((rw9 v.t v.k v.a v.b v.r v.g v.s v.m v.d) i) = true
noncomputable def f66_1 (v : V66) : (Prop) := ∀ (i:Nat), i < v.Q → (rw9 v.t v.k v.a v.b v.r v.g v.s v.m v.d) i = elC (rw9 v.t v.k v.a v.b v.r v.g v.s v.m v.d) (0:Nat) ck9 i
noncomputable def f66_2 (v : V66) : (Prop) := pre69 (V69.mk v.z v.L v.at_ v.Q v.t v.k v.a v.b v.r v.g v.s v.m v.d)
noncomputable def f66_3 (v : V66) : (Prop) := f66_12 v = false → (∀ (i:Nat), i < v.Q → (rw9 v.t v.k v.a v.b v.r v.g v.s v.m v.d) i = elC (rw9 v.t v.k v.a v.b v.r v.g v.s v.m v.d) (0:Nat) ck9 i) ∧ ∀ (i:Nat), i < (0:Nat) → (fun (j:Nat) => []) i = elC (fun (j:Nat) => []) (0:Nat) [Ck.int IntKind.u64] i
noncomputable def f66_4 (v : V66) : (Prop) := f66_12 v = false → LT (r66_0 (P66_0.mk (f66_11 v) v.Q v.t v.k v.a v.b v.r v.g v.s v.m v.d v.z v.L)) (f66_13 v)
noncomputable def f66_5 (v : V66) : (Bool) := f66_12 v
noncomputable def f66_6 (v : V66) : (Prop) := (∀ (i:Nat), scpL (0:Nat) ((rw9 v.t v.k v.a v.b v.r v.g v.s v.m v.d) i) = true) ∧ ∀ (i:Nat), scpL (0:Nat) ((fun (j:Nat) => []) i) = true
noncomputable def f66_7 (v : V66) : (Prop) := (∀ (i:Nat), scpL (0:Nat) ((rw9 v.t v.k v.a v.b v.r v.g v.s v.m v.d) i) = true) ∧ ∀ (i:Nat), scpL (0:Nat) ((fun (j:Nat) => [SV.int IntKind.u64 ((f66_14 v).F2_0 j)]) i) = true
noncomputable def f66_8 (v : V66) : (Nat) := (f66_14 v).n5
noncomputable def f66_9 (v : V66) : (Nat) := (f66_14 v).N2
noncomputable def f66_10 (v : V66) : Nat → (Int) := fun (j:Nat) => (f66_14 v).F2_0 j
theorem n_f66_0 (v : V66) : f66_0 v := by
 unfold f66_0
 (repeat' first | intro _ | apply And.intro) <;> first | rfl | exact absurd (by assumption) (Nat.not_lt_zero _) | exact scpL_rowSet (by rfl) (by rfl) | exact scpL_rowEl (by kernel_rfl) _ | omega | decide
theorem n_f66_1 (v : V66) : f66_1 v := by
 unfold f66_1
 (repeat' first | intro _ | apply And.intro) <;> first | rfl | exact absurd (by assumption) (Nat.not_lt_zero _) | exact scpL_rowSet (by rfl) (by rfl) | exact scpL_rowEl (by kernel_rfl) _ | omega | decide
theorem n_f66_3 (v : V66) : f66_3 v := by
 unfold f66_3
 (repeat' first | intro _ | apply And.intro) <;> first | rfl | exact absurd (by assumption) (Nat.not_lt_zero _) | exact scpL_rowSet (by rfl) (by rfl) | exact scpL_rowEl (by kernel_rfl) _ | omega | decide
theorem n_f66_6 (v : V66) : f66_6 v := by
 unfold f66_6
 (repeat' first | intro _ | apply And.intro) <;> first | rfl | exact absurd (by assumption) (Nat.not_lt_zero _) | exact scpL_rowSet (by rfl) (by rfl) | exact scpL_rowEl (by kernel_rfl) _ | omega | decide
theorem n_f66_7 (v : V66) : f66_7 v := by
 unfold f66_7
 (repeat' first | intro _ | apply And.intro) <;> first | rfl | exact absurd (by assumption) (Nat.not_lt_zero _) | exact scpL_rowSet (by rfl) (by rfl) | exact scpL_rowEl (by kernel_rfl) _ | omega | decide
noncomputable def ff66 (v : V66) : Tr (Fin th.R) := (Tr.need (f66_0 v) (Tr.need (f66_1 v) (Tr.need (f66_2 v) (Tr.need (f66_0 v) (Tr.need (f66_3 v) (Tr.need (f66_4 v) (Tr.ite (f66_5 v) (Tr.need (f66_6 v) (Tr.leaf ((SV.slc (1) (1:Nat) (0:Nat) (0:Nat)), [(HO.row (100:Nat) (9:Nat) (v.Q) (rw9 v.t v.k v.a v.b v.r v.g v.s v.m v.d)), (HO.row (22:Nat) (1:Nat) (0:Nat) (fun u => []))], [nat_lit 0]))) (Tr.need (f66_7 v) (Tr.leaf ((SV.slc (1) (1:Nat) (0:Nat) (f66_8 v)), [(HO.row (100:Nat) (9:Nat) (v.Q) (rw9 v.t v.k v.a v.b v.r v.g v.s v.m v.d)), (HO.row (22:Nat) (1:Nat) (f66_9 v) (fun j => [SV.int .u64 (f66_10 v j)]))], [nat_lit 0]))))))))))
noncomputable def f66 (v : V66) : Tr (Fin th.R) := (Tr.need (f66_2 v) (Tr.need (f66_4 v) (Tr.ite (f66_5 v) (Tr.leaf ((SV.slc (1) (1:Nat) (0:Nat) (0:Nat)), [(HO.row (100:Nat) (9:Nat) (v.Q) (fun j => [SV.int .u64 (v.t j), SV.int .i64 (v.k j), SV.int .u64 (v.a j), SV.int .i64 (v.b j), SV.int .i64 (v.r j), SV.int .i64 (v.g j), SV.int .i64 (v.s j), SV.int .u64 (v.m j), SV.int .i64 (v.d j)])), (HO.row (22:Nat) (1:Nat) (0:Nat) (fun u => []))], [0])) (Tr.leaf ((SV.slc (1) (1:Nat) (0:Nat) (f66_8 v)), [(HO.row (100:Nat) (9:Nat) (v.Q) (fun j => [SV.int .u64 (v.t j), SV.int .i64 (v.k j), SV.int .u64 (v.a j), SV.int .i64 (v.b j), SV.int .i64 (v.r j), SV.int .i64 (v.g j), SV.int .i64 (v.s j), SV.int .u64 (v.m j), SV.int .i64 (v.d j)])), (HO.row (22:Nat) (1:Nat) (f66_9 v) (fun j => [SV.int .u64 (f66_10 v j)]))], [0])))))
noncomputable def C66 : CF th.R := fnC d66 ofV66 (f66 )
theorem q66 (v : V66) : (normC (nilC 22 1 (evFn th Try.prog (auto th Try.prog nice141n [] 20) (autoH [(6, L66_0)] [] [] [4, 5, 47] : Hints th) 66))) (A66 v) (H66 v) = some (ff66 v) := by kernel_rfl
theorem qg66 (v : V66) : ((ff66 v).map (setD [0])).get = (f66 v).get := by kernel_rfl
theorem qd66 (v : V66) : allD 1 [0] (ff66 v) = true := by kernel_rfl
theorem s66 : Sound Try.prog th 66 (C66 ) := fnC_sound (normC_sound (nilC_sound (evFn_sound' (T := th) (P := Try.prog) (tbl := (auto th Try.prog nice141n [] 20)) (auto_sound (nice := nice141n) (us := []) nok141n 20) (H := (autoH [(6, L66_0)] [] [] [4, 5, 47] : Hints th)) (k := 66) (fnLoops ok66)))) d66 A66 H66 toV66 (by kernel_rfl) (fun v => by kernel_rfl)
 (fun l v h => by
  unfold ofV66 at h
  split at h
  ·cases h; rfl
  ·cases h)
 [0] (fun v => ⟨ff66 v, q66 v, fun h => by
  unfold f66 at h; unfold ff66
  simp only [Tr.ok, n_f66_0, n_f66_1, n_f66_3, n_f66_6, n_f66_7, true_and, and_true, forall_const, implies_true] at h ⊢
  try exact h, qg66 v, qd66 v⟩)
theorem qdd66 (v : V66) : (f66 v).get.2.2 = [0] := by
 rw [← qg66, Tr.map_get]; rfl
set_option maxRecDepth 100000
def ns66 (p : P66_0) : List Nd := nds (ndf p.F0_0 p.F0_1 p.F0_2 p.F0_3 p.F0_4 p.F0_5 p.F0_6 p.F0_7 p.F0_8) p.nh1_1
def Q66 (B : List Int) (s : S66_0) : Prop := s.N2 = s.n5 ∧ ls s.F2_0 s.n5 = B
theorem l66 {p : P66_0} {s : S66_0} {B : List Int} {i : Nat} (hp : p.N0 = p.nh1_1 ∧ p.nh1_1 ≤ 100000) (hi : p.x6 = i ∧ i < p.nh1_1) (hs : s.n5 = 0 ∧ s.N2 = 0 ∧ s.x7 = ((i + 1:Nat):Int)) (hB : bwT (ns66 p) (p.F0_8 i) (i + 1) = B) : LT (r66_0 p) s ∧ Q66 B (lastS (r66_0 p) s) := by
 obtain ⟨hN, hL⟩ := hp
 obtain ⟨h6, hi⟩ := hi
 have hlen : (ns66 p).length = p.nh1_1 := nds_len _ _
 refine LT.post (fun s : S66_0 => ∃ k : Nat, s.x7 = k ∧ i < k ∧ k ≤ p.nh1_1 ∧ s.N2 = s.n5 ∧ s.n5 < k ∧ ls s.F2_0 s.n5 ++ bwT (ns66 p) (p.F0_8 i) k = B) (Q66 B) (fun s : S66_0 => (p.nh1_1 - s.x7).toNat) ?_ ?_
 rotate_left
 ·refine ⟨i + 1, hs.2.2, by omega, by omega, by rw [hs.1, hs.2.1], by rw [hs.1]; omega, ?_⟩
  rw [hs.1]
  exact hB
 rintro ⟨n5, x7, N2, F⟩ ⟨k, g1, g2, g3, g4, g5, g6⟩
 simp only at g1 g4 g5 g6
 subst g1 g4
 have w2 : IntKind.i64.wrap ((k:Int) + 1) = ((k + 1:Nat):Int) := by rw [wi (by omega) (by omega)]; omega
 have e10 : e66_0_10 p ⟨N2, k, N2, F⟩ = k := by show 0 + (k:Int).toNat = k; omega
 have e11 : e66_0_11 p ⟨N2, k, N2, F⟩ = i := by show 0 + p.x6.toNat = i; rw [h6]; omega
 have n0 : e66_0_0 p ⟨N2, k, N2, F⟩ := by
  have hc : cnd (decide ((k:Int) < (p.nh1_1:Int))) true false = true → k < p.nh1_1 := fun e => by
   rw [cnd_id] at e
   have := of_decide_eq_true e
   omega
  refine ⟨fun e => ?_, fun e => ?_, fun e => ?_, fun e => ?_⟩
  ·have := hc e; exact ⟨by show (0:Int) ≤ k; omega, by show (k:Int) < p.nh1_1; omega⟩
  ·have := hc e; rw [e10, hN]; exact this
  ·rw [h6]; exact ⟨by omega, by omega⟩
  ·rw [e11, hN]; exact hi
 by_cases hc : k < (ns66 p).length ∧ (gN (ns66 p) k).d > p.F0_8 i
 ·have hk : k < p.nh1_1 := by rw [← hlen]; exact hc.1
  have hg : gN (ns66 p) k = ndf p.F0_0 p.F0_1 p.F0_2 p.F0_3 p.F0_4 p.F0_5 p.F0_6 p.F0_7 p.F0_8 k := gN_nds hk
  have hd2 : p.F0_8 k > p.F0_8 i := by have := hc.2; rw [hg] at this; exact this
  have hd : e66_0_1 p ⟨N2, k, N2, F⟩ = false := by
   show cnd (cnd (decide ((k:Int) < (p.nh1_1:Int))) (decide (e66_0_12 p ⟨N2, k, N2, F⟩ > e66_0_13 p ⟨N2, k, N2, F⟩)) false) false true = false
   unfold e66_0_12 e66_0_13
   rw [e10, e11, decide_eq_true (by omega), decide_eq_true hd2]
   rfl
  have g6 := app_eq g6 (bwT_on hc.1 hc.2)
  simp only [r66_0, hd, Tr.ok, Tr.get]
  refine ⟨⟨n0, (fun e => by cases e), fun _ => ⟨⟨by show (0:Int) ≤ k; omega, by show (k:Int) < p.nh1_1; omega⟩, by show e66_0_10 p ⟨N2, k, N2, F⟩ < p.N0; rw [e10, hN]; exact hk, ⟨rfl, Nat.le_refl _, Nat.le_refl _, by show (N2 + 1) * 4096 ≤ _; omega, by show N2 + 1 ≤ _; omega⟩, trivial⟩⟩, .inr ⟨_, rfl, ⟨k + 1, w2, by omega, hk, rfl, by show N2 + 1 < k + 1; omega, ?_⟩, ?_⟩⟩
  ·show ls (fun j => cnd (Nat.blt j N2) (F j) (e66_0_15 p ⟨N2, k, N2, F⟩)) (N2 + 1) ++ bwT (ns66 p) (p.F0_8 i) (k + 1) = B
   unfold e66_0_15
   rw [ls_push, List.append_assoc, e10]
   rw [hg] at g6
   exact g6
  ·show ((p.nh1_1:Int) - e66_0_8 p _).toNat < ((p.nh1_1:Int) - (k:Int)).toNat
   simp only [e66_0_8, w2]
   omega
 ·have hd : e66_0_1 p ⟨N2, k, N2, F⟩ = true := by
   show cnd (cnd (decide ((k:Int) < (p.nh1_1:Int))) (decide (e66_0_12 p ⟨N2, k, N2, F⟩ > e66_0_13 p ⟨N2, k, N2, F⟩)) false) false true = true
   unfold e66_0_12 e66_0_13
   rw [e10, e11]
   by_cases hk : k < p.nh1_1
   ·have hg : gN (ns66 p) k = ndf p.F0_0 p.F0_1 p.F0_2 p.F0_3 p.F0_4 p.F0_5 p.F0_6 p.F0_7 p.F0_8 k := gN_nds hk
    have hd2 : ¬ (p.F0_8 k > p.F0_8 i) := fun e => hc ⟨by rw [hlen]; exact hk, by rw [hg]; exact e⟩
    rw [decide_eq_true (by omega), decide_eq_false hd2]
    rfl
   ·rw [decide_eq_false (by omega)]
    rfl
  have g6 := app_nil g6 (bwT_stop hc)
  simp only [r66_0, hd, Tr.ok, Tr.get]
  exact ⟨⟨n0, fun _ => trivial, (fun e => by cases e)⟩, .inl ⟨⟨_, _, _, rfl⟩, rfl, g6⟩⟩
def pre66 (v : V66) : Prop := (v.Q = v.L ∧ v.L ≤ 100000)
theorem n66 (v : V66) (h : pre66 v) : (f66 v).ok ∧ (f66 v).get.1 = .slc 1 1 0 (bwL (nds (ndf v.t v.k v.a v.b v.r v.g v.s v.m v.d) v.L) v.at_).length ∧ HOws (f66 v).get.2.1 [HO.row 100 9 v.Q (fun j => [.int .u64 (v.t j), .int .i64 (v.k j), .int .u64 (v.a j), .int .i64 (v.b j), .int .i64 (v.r j), .int .i64 (v.g j), .int .i64 (v.s j), .int .u64 (v.m j), .int .i64 (v.d j)]), HO.row 22 1 ((bwL (nds (ndf v.t v.k v.a v.b v.r v.g v.s v.m v.d) v.L) v.at_)).length (fun j => [.int .u64 (((bwL (nds (ndf v.t v.k v.a v.b v.r v.g v.s v.m v.d) v.L) v.at_)).getD j 0)])] := by
 have hQ : v.Q = v.L := h.1
 have hL : v.L ≤ 100000 := h.2
 have main : f66_12 v = false → LT (r66_0 (P66_0.mk (f66_11 v) v.Q v.t v.k v.a v.b v.r v.g v.s v.m v.d v.z v.L)) (f66_13 v) ∧ Q66 (bwL (nds (ndf v.t v.k v.a v.b v.r v.g v.s v.m v.d) v.L) v.at_) (f66_14 v) := fun hz => by
  have h0 : 0 ≤ f66_11 v := by have := of_decide_eq_false hz; omega
  have hlt : f66_11 v < v.L := (fnd_lt (ndf v.t v.k v.a v.b v.r v.g v.s v.m v.d) v.L v.at_).2
  refine l66 (p := P66_0.mk (f66_11 v) v.Q v.t v.k v.a v.b v.r v.g v.s v.m v.d v.z v.L) (s := f66_13 v) (i := (f66_11 v).toNat) ⟨hQ, hL⟩ ⟨by show f66_11 v = _; omega, by show (f66_11 v).toNat < v.L; omega⟩ ⟨rfl, rfl, ?_⟩ ?_
  ·show IntKind.i64.wrap (f66_11 v + 1) = _
   rw [wi (by omega) (by omega)]
   omega
  ·unfold bwL atN
   have e : fnd (nds (ndf v.t v.k v.a v.b v.r v.g v.s v.m v.d) v.L) v.at_ = f66_11 v := rfl
   rw [e, if_neg (by omega), gN_nds (by omega)]
   rfl
 refine ⟨⟨h, fun hz => (main hz).1, fun _ => trivial, fun _ => trivial⟩, ?_, ?_⟩
 ·cases hz : f66_12 v with
  | true =>
   have hb : bwL (nds (ndf v.t v.k v.a v.b v.r v.g v.s v.m v.d) v.L) v.at_ = [] := by have hn : fnd (nds (ndf v.t v.k v.a v.b v.r v.g v.s v.m v.d) v.L) v.at_ < 0 := of_decide_eq_true hz; unfold bwL; rw [if_pos hn]
   have e3 : f66_5 v = true := hz
   simp only [f66, Tr.get, e3, hb]
   rfl
  | false =>
   obtain ⟨_, k2, k3⟩ := main hz
   have e3 : f66_5 v = false := hz
   have hl : (bwL (nds (ndf v.t v.k v.a v.b v.r v.g v.s v.m v.d) v.L) v.at_).length = (f66_14 v).n5 := by rw [← k3, ls_len]
   simp only [f66, Tr.get, e3, f66_8, hl]
 ·cases hz : f66_12 v with
  | true =>
   have hb : bwL (nds (ndf v.t v.k v.a v.b v.r v.g v.s v.m v.d) v.L) v.at_ = [] := by have hn : fnd (nds (ndf v.t v.k v.a v.b v.r v.g v.s v.m v.d) v.L) v.at_ < 0 := of_decide_eq_true hz; unfold bwL; rw [if_pos hn]
   have e3 : f66_5 v = true := hz
   simp only [f66, Tr.get, e3, hb]
   exact .cons (.inl rfl) (.cons (.row fun j hj => absurd hj (Nat.not_lt_zero _)) .nil)
  | false =>
   obtain ⟨_, k2, k3⟩ := main hz
   have e3 : f66_5 v = false := hz
   simp only [f66, Tr.get, e3, f66_9, f66_10]
   exact .cons (.inl rfl) (.cons (rowL k2 k3) .nil)
noncomputable def f66n (v : V66) : Tr (Fin th.R) := .need (pre66 v) (.leaf (.slc 1 1 0 (bwL (nds (ndf v.t v.k v.a v.b v.r v.g v.s v.m v.d) v.L) v.at_).length, [.row 100 9 v.Q (fun j => [.int .u64 (v.t j), .int .i64 (v.k j), .int .u64 (v.a j), .int .i64 (v.b j), .int .i64 (v.r j), .int .i64 (v.g j), .int .i64 (v.s j), .int .u64 (v.m j), .int .i64 (v.d j)]), .row 22 1 ((bwL (nds (ndf v.t v.k v.a v.b v.r v.g v.s v.m v.d) v.L) v.at_)).length (fun j => [.int .u64 (((bwL (nds (ndf v.t v.k v.a v.b v.r v.g v.s v.m v.d) v.L) v.at_)).getD j 0)])], [0]))
theorem s66n : Sound Try.prog th 66 (fnC d66 ofV66 f66n) := fnC_refine s66 fun v h => by
 obtain ⟨hp, _⟩ := h
 obtain ⟨a, b, c⟩ := n66 v hp
 exact ⟨a, b.symm, (qdd66 v).symm, c, by show 1 ≤ 2; decide⟩
noncomputable def nice66n : List (Nat × CF th.R) := (66, lift (fnC d66 ofV66 f66n)) :: nice141n
theorem nok66n : NiceOk Try.prog th nice66n := ⟨lift_sound s66n, nok141n⟩
set_option maxRecDepth 100000
structure V143 where
 z : Int
 L : Nat
 at_ : Int
 Q : Nat
 t : Nat → Int
 k : Nat → Int
 a : Nat → Int
 b : Nat → Int
 r : Nat → Int
 g : Nat → Int
 s : Nat → Int
 m : Nat → Int
 d : Nat → Int
def A143 (v : V143) : List SV := [.agg [.int .u64 v.z, .slc 0 9 0 v.L], .int .u64 v.at_]
def H143 (v : V143) : List (HO th.R) := [.row 100 9 v.Q (rw9 v.t v.k v.a v.b v.r v.g v.s v.m v.d)]
def toV143 (v : V143) : List (Vl th.R) := [.i v.z, .n v.L, .i v.at_, .n v.Q, .c v.t, .c v.k, .c v.a, .c v.b, .c v.r, .c v.g, .c v.s, .c v.m, .c v.d]
def ofV143 : List (Vl th.R) → Option V143
 | [.i z, .n L, .i at_, .n Q, .c t, .c k, .c a, .c b, .c r, .c g, .c s, .c m, .c d] => some ⟨z, L, at_, Q, t, k, a, b, r, g, s, m, d⟩
 | _ => none
def d143 : Ft := ⟨[.agg [.int .u64, .slc0 0 9], .int .u64], [.rowc 100 [.int .u64, .int .i64, .int .u64, .int .i64, .int .i64, .int .i64, .int .i64, .int .u64, .int .i64]]⟩
structure P143_0 where
 x7 : Int
 x8 : Int
 N0 : Nat
 F0_0 : Nat → Int
 F0_1 : Nat → Int
 F0_2 : Nat → Int
 F0_3 : Nat → Int
 F0_4 : Nat → Int
 F0_5 : Nat → Int
 F0_6 : Nat → Int
 F0_7 : Nat → Int
 F0_8 : Nat → Int
 xh1_0 : Int
 nh1_1 : Nat
 xh2_0 : Int
 N3 : Nat
 F3_0 : Nat → Int
structure S143_0 where
 n9 : Nat
 x10 : Int
 N4 : Nat
 F4_0 : Nat → Int
 F4_1 : Nat → Int
 F4_2 : Nat → Int
 F4_3 : Nat → Int
 F4_4 : Nat → Int
 F4_5 : Nat → Int
 F4_6 : Nat → Int
 F4_7 : Nat → Int
 F4_8 : Nat → Int
noncomputable instance : Inhabited S143_0 := ⟨⟨0, 0, 0, fun _ => 0, fun _ => 0, fun _ => 0, fun _ => 0, fun _ => 0, fun _ => 0, fun _ => 0, fun _ => 0, fun _ => 0⟩⟩
def I143_0 (p : P143_0) (s : S143_0) : St th.R := ⟨[none, none, some (.ptr 1 0), none, some (.ptr 2 0), none, none, some (.int .i64 p.x7), some (.int .i64 p.x8), some (.slc 4 9 0 s.n9), some (.int .i64 s.x10), none, none, none, none, none, none, none, none, none, none, none, none, none, none, none, none, none, none, none, none, none, none, none, none, none, none, none, none, none, none, none, none, none, none, none, none, none, none, none, none, none, none, none, none, none, none, none, none, none, none, none], [.row 100 9 p.N0 (rw9 p.F0_0 p.F0_1 p.F0_2 p.F0_3 p.F0_4 p.F0_5 p.F0_6 p.F0_7 p.F0_8), .cells 55 [.int .u64 p.xh1_0, .slc 0 9 0 p.nh1_1], .cells 55 [.int .u64 p.xh2_0, .nils], .row 22 1 p.N3 (fun j => [.int .u64 (p.F3_0 j)]), .row 100 9 s.N4 (rw9 s.F4_0 s.F4_1 s.F4_2 s.F4_3 s.F4_4 s.F4_5 s.F4_6 s.F4_7 s.F4_8)], [], []⟩
def d143_0 : Lp := ⟨⟨62, [(2, .ptr 1 0), (4, .ptr 2 0), (7, .int .i64), (8, .int .i64), (9, .slc0 4 9), (10, .int .i64)], [.rowc 100 [.int .u64, .int .i64, .int .u64, .int .i64, .int .i64, .int .i64, .int .i64, .int .u64, .int .i64], .cells 55 [.int .u64, .slc0 0 9], .cells 55 [.int .u64, .nils], .rowc 22 [.int .u64], .rowc 100 [.int .u64, .int .i64, .int .u64, .int .i64, .int .i64, .int .i64, .int .i64, .int .u64, .int .i64]]⟩, [⟨9, 100, 9⟩], 4, [], [2, 4, 9], []⟩
def toV143_0 (p : P143_0) (s : S143_0) : List (Vl th.R) := [.i p.x7, .i p.x8, .n s.n9, .i s.x10, .n p.N0, .c p.F0_0, .c p.F0_1, .c p.F0_2, .c p.F0_3, .c p.F0_4, .c p.F0_5, .c p.F0_6, .c p.F0_7, .c p.F0_8, .i p.xh1_0, .n p.nh1_1, .i p.xh2_0, .n p.N3, .c p.F3_0, .n s.N4, .c s.F4_0, .c s.F4_1, .c s.F4_2, .c s.F4_3, .c s.F4_4, .c s.F4_5, .c s.F4_6, .c s.F4_7, .c s.F4_8]
def ofV143_0 : List (Vl th.R) → Option (P143_0 × S143_0)
 | [.i x7, .i x8, .n n9, .i x10, .n N0, .c F0_0, .c F0_1, .c F0_2, .c F0_3, .c F0_4, .c F0_5, .c F0_6, .c F0_7, .c F0_8, .i xh1_0, .n nh1_1, .i xh2_0, .n N3, .c F3_0, .n N4, .c F4_0, .c F4_1, .c F4_2, .c F4_3, .c F4_4, .c F4_5, .c F4_6, .c F4_7, .c F4_8] => some (⟨x7, x8, N0, F0_0, F0_1, F0_2, F0_3, F0_4, F0_5, F0_6, F0_7, F0_8, xh1_0, nh1_1, xh2_0, N3, F3_0⟩, ⟨n9, x10, N4, F4_0, F4_1, F4_2, F4_3, F4_4, F4_5, F4_6, F4_7, F4_8⟩)
 | _ => none
noncomputable def e143_0_19 (p : P143_0) (s : S143_0) : (Nat) := (0:Nat) + s.x10.toNat
noncomputable def e143_0_20 (p : P143_0) (s : S143_0) : (Nat) := s.n9 + (1:Nat)
noncomputable def e143_0_21 (p : P143_0) (s : S143_0) : (Int) := IntKind.i64.wrap (p.x7 + p.x8)
noncomputable def e143_0_22 (p : P143_0) (s : S143_0) : (Int) := p.F0_0 (e143_0_19 p s)
noncomputable def e143_0_23 (p : P143_0) (s : S143_0) : (Int) := cnd (cnd (decide (s.x10 > p.x7)) (decide (s.x10 ≤ e143_0_21 p s)) false) (e143_0_22 p s) (e143_0_22 p s)
noncomputable def e143_0_24 (p : P143_0) (s : S143_0) : (Int) := p.F0_1 (e143_0_19 p s)
noncomputable def e143_0_25 (p : P143_0) (s : S143_0) : (Int) := cnd (cnd (decide (s.x10 > p.x7)) (decide (s.x10 ≤ e143_0_21 p s)) false) (e143_0_24 p s) (e143_0_24 p s)
noncomputable def e143_0_26 (p : P143_0) (s : S143_0) : (Int) := p.F0_2 (e143_0_19 p s)
noncomputable def e143_0_27 (p : P143_0) (s : S143_0) : (Int) := cnd (cnd (decide (s.x10 > p.x7)) (decide (s.x10 ≤ e143_0_21 p s)) false) (e143_0_26 p s) (e143_0_26 p s)
noncomputable def e143_0_28 (p : P143_0) (s : S143_0) : (Int) := p.F0_3 (e143_0_19 p s)
noncomputable def e143_0_29 (p : P143_0) (s : S143_0) : (Int) := cnd (cnd (decide (s.x10 > p.x7)) (decide (s.x10 ≤ e143_0_21 p s)) false) (e143_0_28 p s) (e143_0_28 p s)
noncomputable def e143_0_30 (p : P143_0) (s : S143_0) : (Int) := p.F0_4 (e143_0_19 p s)
noncomputable def e143_0_31 (p : P143_0) (s : S143_0) : (Int) := cnd (cnd (decide (s.x10 > p.x7)) (decide (s.x10 ≤ e143_0_21 p s)) false) (e143_0_30 p s) (e143_0_30 p s)
noncomputable def e143_0_32 (p : P143_0) (s : S143_0) : (Int) := p.F0_5 (e143_0_19 p s)
noncomputable def e143_0_33 (p : P143_0) (s : S143_0) : (Int) := cnd (cnd (decide (s.x10 > p.x7)) (decide (s.x10 ≤ e143_0_21 p s)) false) (e143_0_32 p s) (e143_0_32 p s)
noncomputable def e143_0_34 (p : P143_0) (s : S143_0) : (Int) := p.F0_6 (e143_0_19 p s)
noncomputable def e143_0_35 (p : P143_0) (s : S143_0) : (Int) := cnd (cnd (decide (s.x10 > p.x7)) (decide (s.x10 ≤ e143_0_21 p s)) false) (e143_0_34 p s) (e143_0_34 p s)
noncomputable def e143_0_36 (p : P143_0) (s : S143_0) : (Int) := p.F0_7 (e143_0_19 p s)
noncomputable def e143_0_37 (p : P143_0) (s : S143_0) : (Int) := cnd (cnd (decide (s.x10 > p.x7)) (decide (s.x10 ≤ e143_0_21 p s)) false) (e143_0_36 p s) (e143_0_36 p s)
noncomputable def e143_0_38 (p : P143_0) (s : S143_0) : (Int) := p.F0_8 (e143_0_19 p s)
noncomputable def e143_0_39 (p : P143_0) (s : S143_0) : (Int) := cnd (cnd (decide (s.x10 > p.x7)) (decide (s.x10 ≤ e143_0_21 p s)) false) (IntKind.i64.wrap (e143_0_38 p s - (1:Int))) (e143_0_38 p s)
noncomputable def e143_0_0 (p : P143_0) (s : S143_0) : (Bool) := cnd (decide (s.x10 < (↑p.nh1_1:Int))) false true
noncomputable def e143_0_1 (p : P143_0) (s : S143_0) : (Prop) := (∀ (i:Nat), scpL (0:Nat) ((rw9 p.F0_0 p.F0_1 p.F0_2 p.F0_3 p.F0_4 p.F0_5 p.F0_6 p.F0_7 p.F0_8) i) = true) ∧ (∀ (i:Nat), scpL (0:Nat) ((fun (j:Nat) => [SV.int IntKind.u64 (p.F3_0 j)]) i) = true) ∧ ∀ (i:Nat), scpL (0:Nat) ((rw9 s.F4_0 s.F4_1 s.F4_2 s.F4_3 s.F4_4 s.F4_5 s.F4_6 s.F4_7 s.F4_8) i) = true
noncomputable def e143_0_2 (p : P143_0) (s : S143_0) : (Prop) := (0:Int) ≤ s.x10 ∧ s.x10 < (↑p.nh1_1:Int)
noncomputable def e143_0_3 (p : P143_0) (s : S143_0) : (Prop) := e143_0_19 p s < p.N0
noncomputable def e143_0_4 (p : P143_0) (s : S143_0) : (Prop) := (s.x10 != p.x7) = true → (0:Nat) = (0:Nat) ∧ s.n9 ≤ s.N4 ∧ (1:Nat) ≤ (1:Nat) ∧ e143_0_20 p s * (4096:Nat) ≤ (140737488355328:Nat) ∧ e143_0_20 p s ≤ (9223372036854775807:Nat)
noncomputable def e143_0_5 (p : P143_0) (s : S143_0) : (Bool) := s.x10 != p.x7
noncomputable def e143_0_6 (p : P143_0) (s : S143_0) : (Prop) := ((∀ (i:Nat), scpL (0:Nat) ((rw9 p.F0_0 p.F0_1 p.F0_2 p.F0_3 p.F0_4 p.F0_5 p.F0_6 p.F0_7 p.F0_8) i) = true) ∧ (∀ (i:Nat), scpL (0:Nat) ((fun (j:Nat) => [SV.int IntKind.u64 (p.F3_0 j)]) i) = true) ∧ ∀ (i:Nat), scpL (0:Nat) ((fun (i:Nat) => rowSet (i.blt s.n9) ((rw9 s.F4_0 s.F4_1 s.F4_2 s.F4_3 s.F4_4 s.F4_5 s.F4_6 s.F4_7 s.F4_8) i) (rowEl (1:Nat) (9:Nat) (setMany (List.map (fun (i:Nat) => [SV.int IntKind.u64 (0:Int), SV.int IntKind.i64 (0:Int), SV.int IntKind.u64 (0:Int), SV.int IntKind.i64 (0:Int), SV.int IntKind.i64 (0:Int), SV.int IntKind.i64 (0:Int), SV.int IntKind.i64 (0:Int), SV.int IntKind.u64 (0:Int), SV.int IntKind.i64 (0:Int)].getD (i % (9:Nat)) Inhabited.default) (List.range (9:Nat))) (0:Nat) (SV.agg (List.take (9:Nat) (List.drop (0:Nat) [SV.int IntKind.u64 (e143_0_23 p s), SV.int IntKind.i64 (e143_0_25 p s), SV.int IntKind.u64 (e143_0_27 p s), SV.int IntKind.i64 (e143_0_29 p s), SV.int IntKind.i64 (e143_0_31 p s), SV.int IntKind.i64 (e143_0_33 p s), SV.int IntKind.i64 (e143_0_35 p s), SV.int IntKind.u64 (e143_0_37 p s), SV.int IntKind.i64 (e143_0_39 p s)]))).cells) ((0:Nat) + (i - s.n9)))) i) = true) ∧ (∀ (i:Nat), i < p.N0 → (rw9 p.F0_0 p.F0_1 p.F0_2 p.F0_3 p.F0_4 p.F0_5 p.F0_6 p.F0_7 p.F0_8) i = elC (rw9 p.F0_0 p.F0_1 p.F0_2 p.F0_3 p.F0_4 p.F0_5 p.F0_6 p.F0_7 p.F0_8) (0:Nat) ck9 i) ∧ (∀ (i:Nat), i < p.N3 → (fun (j:Nat) => [SV.int IntKind.u64 (p.F3_0 j)]) i = elC (fun (j:Nat) => [SV.int IntKind.u64 (p.F3_0 j)]) (0:Nat) [Ck.int IntKind.u64] i) ∧ ∀ (i:Nat), i < e143_0_20 p s → (fun (i:Nat) => rowSet (i.blt s.n9) ((rw9 s.F4_0 s.F4_1 s.F4_2 s.F4_3 s.F4_4 s.F4_5 s.F4_6 s.F4_7 s.F4_8) i) (rowEl (1:Nat) (9:Nat) (setMany (List.map (fun (i:Nat) => [SV.int IntKind.u64 (0:Int), SV.int IntKind.i64 (0:Int), SV.int IntKind.u64 (0:Int), SV.int IntKind.i64 (0:Int), SV.int IntKind.i64 (0:Int), SV.int IntKind.i64 (0:Int), SV.int IntKind.i64 (0:Int), SV.int IntKind.u64 (0:Int), SV.int IntKind.i64 (0:Int)].getD (i % (9:Nat)) Inhabited.default) (List.range (9:Nat))) (0:Nat) (SV.agg (List.take (9:Nat) (List.drop (0:Nat) [SV.int IntKind.u64 (e143_0_23 p s), SV.int IntKind.i64 (e143_0_25 p s), SV.int IntKind.u64 (e143_0_27 p s), SV.int IntKind.i64 (e143_0_29 p s), SV.int IntKind.i64 (e143_0_31 p s), SV.int IntKind.i64 (e143_0_33 p s), SV.int IntKind.i64 (e143_0_35 p s), SV.int IntKind.u64 (e143_0_37 p s), SV.int IntKind.i64 (e143_0_39 p s)]))).cells) ((0:Nat) + (i - s.n9)))) i = elC (fun (i:Nat) => rowSet (i.blt s.n9) ((rw9 s.F4_0 s.F4_1 s.F4_2 s.F4_3 s.F4_4 s.F4_5 s.F4_6 s.F4_7 s.F4_8) i) (rowEl (1:Nat) (9:Nat) (setMany (List.map (fun (i:Nat) => [SV.int IntKind.u64 (0:Int), SV.int IntKind.i64 (0:Int), SV.int IntKind.u64 (0:Int), SV.int IntKind.i64 (0:Int), SV.int IntKind.i64 (0:Int), SV.int IntKind.i64 (0:Int), SV.int IntKind.i64 (0:Int), SV.int IntKind.u64 (0:Int), SV.int IntKind.i64 (0:Int)].getD (i % (9:Nat)) Inhabited.default) (List.range (9:Nat))) (0:Nat) (SV.agg (List.take (9:Nat) (List.drop (0:Nat) [SV.int IntKind.u64 (e143_0_23 p s), SV.int IntKind.i64 (e143_0_25 p s), SV.int IntKind.u64 (e143_0_27 p s), SV.int IntKind.i64 (e143_0_29 p s), SV.int IntKind.i64 (e143_0_31 p s), SV.int IntKind.i64 (e143_0_33 p s), SV.int IntKind.i64 (e143_0_35 p s), SV.int IntKind.u64 (e143_0_37 p s), SV.int IntKind.i64 (e143_0_39 p s)]))).cells) ((0:Nat) + (i - s.n9)))) (0:Nat) ck9 i
noncomputable def e143_0_7 (p : P143_0) (s : S143_0) : (Nat) := e143_0_20 p s
noncomputable def e143_0_8 (p : P143_0) (s : S143_0) : (Int) := IntKind.i64.wrap (s.x10 + (1:Int))
noncomputable def e143_0_9 (p : P143_0) (s : S143_0) : Nat → (Int) := fun (j:Nat) => cnd (j.blt s.n9) (s.F4_0 j) (e143_0_23 p s)
noncomputable def e143_0_10 (p : P143_0) (s : S143_0) : Nat → (Int) := fun (j:Nat) => cnd (j.blt s.n9) (s.F4_1 j) (e143_0_25 p s)
noncomputable def e143_0_11 (p : P143_0) (s : S143_0) : Nat → (Int) := fun (j:Nat) => cnd (j.blt s.n9) (s.F4_2 j) (e143_0_27 p s)
noncomputable def e143_0_12 (p : P143_0) (s : S143_0) : Nat → (Int) := fun (j:Nat) => cnd (j.blt s.n9) (s.F4_3 j) (e143_0_29 p s)
noncomputable def e143_0_13 (p : P143_0) (s : S143_0) : Nat → (Int) := fun (j:Nat) => cnd (j.blt s.n9) (s.F4_4 j) (e143_0_31 p s)
noncomputable def e143_0_14 (p : P143_0) (s : S143_0) : Nat → (Int) := fun (j:Nat) => cnd (j.blt s.n9) (s.F4_5 j) (e143_0_33 p s)
noncomputable def e143_0_15 (p : P143_0) (s : S143_0) : Nat → (Int) := fun (j:Nat) => cnd (j.blt s.n9) (s.F4_6 j) (e143_0_35 p s)
noncomputable def e143_0_16 (p : P143_0) (s : S143_0) : Nat → (Int) := fun (j:Nat) => cnd (j.blt s.n9) (s.F4_7 j) (e143_0_37 p s)
noncomputable def e143_0_17 (p : P143_0) (s : S143_0) : Nat → (Int) := fun (j:Nat) => cnd (j.blt s.n9) (s.F4_8 j) (e143_0_39 p s)
noncomputable def e143_0_18 (p : P143_0) (s : S143_0) : (Prop) := ((∀ (i:Nat), scpL (0:Nat) ((rw9 p.F0_0 p.F0_1 p.F0_2 p.F0_3 p.F0_4 p.F0_5 p.F0_6 p.F0_7 p.F0_8) i) = true) ∧ (∀ (i:Nat), scpL (0:Nat) ((fun (j:Nat) => [SV.int IntKind.u64 (p.F3_0 j)]) i) = true) ∧ ∀ (i:Nat), scpL (0:Nat) ((rw9 s.F4_0 s.F4_1 s.F4_2 s.F4_3 s.F4_4 s.F4_5 s.F4_6 s.F4_7 s.F4_8) i) = true) ∧ (∀ (i:Nat), i < p.N0 → (rw9 p.F0_0 p.F0_1 p.F0_2 p.F0_3 p.F0_4 p.F0_5 p.F0_6 p.F0_7 p.F0_8) i = elC (rw9 p.F0_0 p.F0_1 p.F0_2 p.F0_3 p.F0_4 p.F0_5 p.F0_6 p.F0_7 p.F0_8) (0:Nat) ck9 i) ∧ (∀ (i:Nat), i < p.N3 → (fun (j:Nat) => [SV.int IntKind.u64 (p.F3_0 j)]) i = elC (fun (j:Nat) => [SV.int IntKind.u64 (p.F3_0 j)]) (0:Nat) [Ck.int IntKind.u64] i) ∧ ∀ (i:Nat), i < s.N4 → (rw9 s.F4_0 s.F4_1 s.F4_2 s.F4_3 s.F4_4 s.F4_5 s.F4_6 s.F4_7 s.F4_8) i = elC (rw9 s.F4_0 s.F4_1 s.F4_2 s.F4_3 s.F4_4 s.F4_5 s.F4_6 s.F4_7 s.F4_8) (0:Nat) ck9 i
theorem n_e143_0_1 (p : P143_0) (s : S143_0) : e143_0_1 p s := by
 unfold e143_0_1
 (repeat' first | intro _ | apply And.intro) <;> first | rfl | exact absurd (by assumption) (Nat.not_lt_zero _) | exact scpL_rowSet (by rfl) (by rfl) | exact scpL_rowEl (by kernel_rfl) _ | omega | decide
theorem n_e143_0_6 (p : P143_0) (s : S143_0) : e143_0_6 p s := by
 unfold e143_0_6
 (repeat' first | intro _ | apply And.intro) <;> first | rfl | exact absurd (by assumption) (Nat.not_lt_zero _) | exact scpL_rowSet (by rfl) (by rfl) | exact scpL_rowEl (by kernel_rfl) _ | omega | decide
theorem n_e143_0_18 (p : P143_0) (s : S143_0) : e143_0_18 p s := by
 unfold e143_0_18
 (repeat' first | intro _ | apply And.intro) <;> first | rfl | exact absurd (by assumption) (Nat.not_lt_zero _) | exact scpL_rowSet (by rfl) (by rfl) | exact scpL_rowEl (by kernel_rfl) _ | omega | decide
noncomputable def rf143_0 (p : P143_0) (s : S143_0) : Tr (Rs th.R S143_0) := (Tr.ite (e143_0_0 p s) (Tr.need (e143_0_1 p s) (Tr.leaf (Rs.out (Ex.exit (0:Nat)) [none, none, (some (SV.ptr (1:Nat) (0:Nat))), none, (some (SV.ptr (2:Nat) (0:Nat))), none, none, none, none, (some (SV.slc (4) (9:Nat) (0:Nat) (s.n9))), none, none, none, none, none, none, none, none, none, none, none, none, none, none, none, none, none, none, none, none, none, none, none, none, none, none, none, none, none, none, none, none, none, none, none, none, none, none, none, none, none, none, none, none, none, none, none, none, none, none, none, none] [(HO.row (100:Nat) (9:Nat) (p.N0) (rw9 p.F0_0 p.F0_1 p.F0_2 p.F0_3 p.F0_4 p.F0_5 p.F0_6 p.F0_7 p.F0_8)), (HO.cells (55:Nat) [SV.int .u64 (p.xh1_0), (SV.slc (0:Nat) (9:Nat) (0:Nat) (p.nh1_1))]), (HO.cells (55:Nat) [SV.int .u64 (p.xh2_0), SV.nils]), (HO.row (22:Nat) (1:Nat) (p.N3) (fun j => [SV.int .u64 (p.F3_0 j)])), (HO.row (100:Nat) (9:Nat) (s.N4) (rw9 s.F4_0 s.F4_1 s.F4_2 s.F4_3 s.F4_4 s.F4_5 s.F4_6 s.F4_7 s.F4_8))]))) (Tr.need (e143_0_2 p s) (Tr.need (e143_0_3 p s) (Tr.need (e143_0_4 p s) (Tr.ite (e143_0_5 p s) (Tr.need (e143_0_6 p s) (Tr.leaf (Rs.on (S143_0.mk ((e143_0_7 p s)) ((e143_0_8 p s)) ((e143_0_7 p s)) ((fun j => (e143_0_9 p s j))) ((fun j => (e143_0_10 p s j))) ((fun j => (e143_0_11 p s j))) ((fun j => (e143_0_12 p s j))) ((fun j => (e143_0_13 p s j))) ((fun j => (e143_0_14 p s j))) ((fun j => (e143_0_15 p s j))) ((fun j => (e143_0_16 p s j))) ((fun j => (e143_0_17 p s j))))))) (Tr.need (e143_0_18 p s) (Tr.leaf (Rs.on (S143_0.mk (s.n9) ((e143_0_8 p s)) (s.N4) (s.F4_0) (s.F4_1) (s.F4_2) (s.F4_3) (s.F4_4) (s.F4_5) (s.F4_6) (s.F4_7) (s.F4_8))))))))))
noncomputable def r143_0 (p : P143_0) (s : S143_0) : Tr (Rs th.R S143_0) := (Tr.ite (e143_0_0 p s) (Tr.leaf (Rs.out (Ex.exit (0:Nat)) [none, none, (some (SV.ptr (1:Nat) (0:Nat))), none, (some (SV.ptr (2:Nat) (0:Nat))), none, none, none, none, (some (SV.slc (4) (9:Nat) (0:Nat) (s.n9))), none, none, none, none, none, none, none, none, none, none, none, none, none, none, none, none, none, none, none, none, none, none, none, none, none, none, none, none, none, none, none, none, none, none, none, none, none, none, none, none, none, none, none, none, none, none, none, none, none, none, none, none] [(HO.row (100:Nat) (9:Nat) (p.N0) (rw9 p.F0_0 p.F0_1 p.F0_2 p.F0_3 p.F0_4 p.F0_5 p.F0_6 p.F0_7 p.F0_8)), (HO.cells (55:Nat) [SV.int .u64 (p.xh1_0), (SV.slc (0:Nat) (9:Nat) (0:Nat) (p.nh1_1))]), (HO.cells (55:Nat) [SV.int .u64 (p.xh2_0), SV.nils]), (HO.row (22:Nat) (1:Nat) (p.N3) (fun j => [SV.int .u64 (p.F3_0 j)])), (HO.row (100:Nat) (9:Nat) (s.N4) (rw9 s.F4_0 s.F4_1 s.F4_2 s.F4_3 s.F4_4 s.F4_5 s.F4_6 s.F4_7 s.F4_8))])) (Tr.need (e143_0_2 p s) (Tr.need (e143_0_3 p s) (Tr.need (e143_0_4 p s) (Tr.ite (e143_0_5 p s) (Tr.leaf (Rs.on (S143_0.mk ((e143_0_7 p s)) ((e143_0_8 p s)) ((e143_0_7 p s)) ((fun j => (e143_0_9 p s j))) ((fun j => (e143_0_10 p s j))) ((fun j => (e143_0_11 p s j))) ((fun j => (e143_0_12 p s j))) ((fun j => (e143_0_13 p s j))) ((fun j => (e143_0_14 p s j))) ((fun j => (e143_0_15 p s j))) ((fun j => (e143_0_16 p s j))) ((fun j => (e143_0_17 p s j)))))) (Tr.leaf (Rs.on (S143_0.mk (s.n9) ((e143_0_8 p s)) (s.N4) (s.F4_0) (s.F4_1) (s.F4_2) (s.F4_3) (s.F4_4) (s.F4_5) (s.F4_6) (s.F4_7) (s.F4_8)))))))))
noncomputable def E143_0 : St th.R → Out th := evCode th Try.prog (auto th Try.prog nice66n [] 20) (autoH [] [] [] [9, 59] : Hints th) (lpAt Try.prog 143 0)
theorem B143_0 : CodeSound th Try.prog (lpAt Try.prog 143 0) E143_0 := evCode_sound (T := th) (P := Try.prog) (tbl := (auto th Try.prog nice66n [] 20)) (auto_sound (nice := nice66n) (us := []) nok66n 20) (autoH [] [] [] [9, 59] : Hints th) _ (LoopsOk_mem (fun _ => rfl) _ fun b hb L hL => by cases hL)
noncomputable def L143_0 : St th.R → Out th := loopL d143_0 ofV143_0 r143_0
theorem h1_143_0 (p : P143_0) (s : S143_0) : bld d143_0.tm (toV143_0 p s) = some (I143_0 p s) := by kernel_rfl
theorem h2_143_0 (l : List (Vl th.R)) (p : P143_0) (s : S143_0) (h : ofV143_0 l = some (p, s)) : l = toV143_0 p s := by
 unfold ofV143_0 at h
 split at h
 ·cases h; rfl
 ·cases h
theorem h3_143_0 (p : P143_0) (s : S143_0) : cvE d143_0 (E143_0 (I143_0 p s)) = some ((rf143_0 p s).map (Rs.map (toV143_0 p))) := by kernel_rfl
theorem h3g_143_0 (p : P143_0) (s : S143_0) : (rf143_0 p s).get = (r143_0 p s).get := by kernel_rfl
theorem h4_143_0 (p : P143_0) (s s1 : S143_0) : outH d143_0.dirt d143_0.n0 (r143_0 p s) = repH (maskH d143_0.dirt 0 d143_0.n0 (I143_0 p s1).heap) (r143_0 p s) := by kernel_rfl
theorem ls143_0 : CodeSound th Try.prog (.loop (lpAt Try.prog 143 0)) L143_0 := loopL_sound B143_0 d143_0 I143_0 toV143_0 (by kernel_rfl) h1_143_0 h2_143_0
 (fun p s => ⟨(rf143_0 p s).map (Rs.map (toV143_0 p)), h3_143_0 p s, fun h => by
  rw [Tr.map_ok]
  unfold r143_0 at h; unfold rf143_0
  simp only [Tr.ok, n_e143_0_1, n_e143_0_6, n_e143_0_18, true_and, and_true, forall_const, implies_true] at h ⊢
  try exact h, by rw [Tr.map_get, h3g_143_0 p s]⟩) h4_143_0
theorem ok143 : LoopsOk th Try.prog (autoH [(8, L143_0)] [] [] [9, 59] : Hints th) (bodyOf Try.prog 143) := autoH_ok (bs := [lpAt Try.prog 143 0]) (by kernel_rfl) fun b hb L hL => by
 simp only [List.mem_cons, List.not_mem_nil, or_false] at hb
 rcases hb with rfl
 ·have e : lookL [(8, L143_0)] (firstReg (lpAt Try.prog 143 0)) = some L143_0 := by kernel_rfl
  rw [e] at hL; cases hL
  exact ls143_0
noncomputable def f143_24 (v : V143) : (Int) := hdT v.z (nds (ndf v.t v.k v.a v.b v.r v.g v.s v.m v.d) v.L) v.at_
noncomputable def f143_25 (v : V143) : (Bool) := f143_24 v != (0:Int)
noncomputable def f143_26 (v : V143) : (Nat) := (bwL (nds (ndf v.t v.k v.a v.b v.r v.g v.s v.m v.d) v.L) v.at_).length
noncomputable def f143_27 (v : V143) : (S143_0) := lastS (r143_0 (P143_0.mk (fnd (nds (ndf v.t v.k v.a v.b v.r v.g v.s v.m v.d) v.L) v.at_) (↑(f143_26 v):Int) v.Q v.t v.k v.a v.b v.r v.g v.s v.m v.d v.z v.L (0:Int) (f143_26 v) fun (j:Nat) => (bwL (nds (ndf v.t v.k v.a v.b v.r v.g v.s v.m v.d) v.L) v.at_).getD j (0:Int))) (S143_0.mk (0:Nat) (0:Int) (0:Nat) (colI (fun (j:Nat) => []) (0:Nat)) (colI (fun (j:Nat) => []) (1:Nat)) (colI (fun (j:Nat) => []) (2:Nat)) (colI (fun (j:Nat) => []) (3:Nat)) (colI (fun (j:Nat) => []) (4:Nat)) (colI (fun (j:Nat) => []) (5:Nat)) (colI (fun (j:Nat) => []) (6:Nat)) (colI (fun (j:Nat) => []) (7:Nat)) (colI (fun (j:Nat) => []) (8:Nat)))
noncomputable def f143_0 (v : V143) : (Prop) := ∀ (i:Nat), scpL (0:Nat) ((rw9 v.t v.k v.a v.b v.r v.g v.s v.m v.d) i) = true
noncomputable def f143_1 (v : V143) : (Prop) := ∀ (i:Nat), i < v.Q → (rw9 v.t v.k v.a v.b v.r v.g v.s v.m v.d) i = elC (rw9 v.t v.k v.a v.b v.r v.g v.s v.m v.d) (0:Nat) ck9 i
noncomputable def f143_2 (v : V143) : (Prop) := pre183 (V183.mk v.z v.L v.at_ v.Q v.t v.k v.a v.b v.r v.g v.s v.m v.d)
noncomputable def f143_3 (v : V143) : (Prop) := f143_25 v = false → ∀ (i:Nat), scpL (0:Nat) ((rw9 v.t v.k v.a v.b v.r v.g v.s v.m v.d) i) = true
noncomputable def f143_4 (v : V143) : (Prop) := f143_25 v = false → ∀ (i:Nat), i < v.Q → (rw9 v.t v.k v.a v.b v.r v.g v.s v.m v.d) i = elC (rw9 v.t v.k v.a v.b v.r v.g v.s v.m v.d) (0:Nat) ck9 i
noncomputable def f143_5 (v : V143) : (Prop) := f143_25 v = false → pre69 (V69.mk v.z v.L v.at_ v.Q v.t v.k v.a v.b v.r v.g v.s v.m v.d)
noncomputable def f143_6 (v : V143) : (Prop) := f143_25 v = false → pre66 (V66.mk v.z v.L v.at_ v.Q v.t v.k v.a v.b v.r v.g v.s v.m v.d)
noncomputable def f143_7 (v : V143) : (Prop) := f143_25 v = false → (∀ (i:Nat), scpL (0:Nat) ((rw9 v.t v.k v.a v.b v.r v.g v.s v.m v.d) i) = true) ∧ ∀ (i:Nat), scpL (0:Nat) ((fun (j:Nat) => [SV.int IntKind.u64 ((bwL (nds (ndf v.t v.k v.a v.b v.r v.g v.s v.m v.d) v.L) v.at_).getD j (0:Int))]) i) = true
noncomputable def f143_8 (v : V143) : (Prop) := f143_25 v = false → (∀ (i:Nat), i < v.Q → (rw9 v.t v.k v.a v.b v.r v.g v.s v.m v.d) i = elC (rw9 v.t v.k v.a v.b v.r v.g v.s v.m v.d) (0:Nat) ck9 i) ∧ (∀ (i:Nat), i < f143_26 v → (fun (j:Nat) => [SV.int IntKind.u64 ((bwL (nds (ndf v.t v.k v.a v.b v.r v.g v.s v.m v.d) v.L) v.at_).getD j (0:Int))]) i = elC (fun (j:Nat) => [SV.int IntKind.u64 ((bwL (nds (ndf v.t v.k v.a v.b v.r v.g v.s v.m v.d) v.L) v.at_).getD j (0:Int))]) (0:Nat) [Ck.int IntKind.u64] i) ∧ ∀ (i:Nat), i < (0:Nat) → (fun (j:Nat) => []) i = elC (fun (j:Nat) => []) (0:Nat) ck9 i
noncomputable def f143_9 (v : V143) : (Prop) := f143_25 v = false → LT (r143_0 (P143_0.mk (fnd (nds (ndf v.t v.k v.a v.b v.r v.g v.s v.m v.d) v.L) v.at_) (↑(f143_26 v):Int) v.Q v.t v.k v.a v.b v.r v.g v.s v.m v.d v.z v.L (0:Int) (f143_26 v) fun (j:Nat) => (bwL (nds (ndf v.t v.k v.a v.b v.r v.g v.s v.m v.d) v.L) v.at_).getD j (0:Int))) (S143_0.mk (0:Nat) (0:Int) (0:Nat) (colI (fun (j:Nat) => []) (0:Nat)) (colI (fun (j:Nat) => []) (1:Nat)) (colI (fun (j:Nat) => []) (2:Nat)) (colI (fun (j:Nat) => []) (3:Nat)) (colI (fun (j:Nat) => []) (4:Nat)) (colI (fun (j:Nat) => []) (5:Nat)) (colI (fun (j:Nat) => []) (6:Nat)) (colI (fun (j:Nat) => []) (7:Nat)) (colI (fun (j:Nat) => []) (8:Nat)))
noncomputable def f143_10 (v : V143) : (Bool) := f143_25 v
noncomputable def f143_11 (v : V143) : (Int) := f143_24 v
noncomputable def f143_12 (v : V143) : (Prop) := (∀ (i:Nat), scpL (0:Nat) ((rw9 v.t v.k v.a v.b v.r v.g v.s v.m v.d) i) = true) ∧ ∀ (i:Nat), scpL (0:Nat) ((fun (j:Nat) => [SV.int IntKind.u64 ((f143_27 v).F4_0 j), SV.int IntKind.i64 ((f143_27 v).F4_1 j), SV.int IntKind.u64 ((f143_27 v).F4_2 j), SV.int IntKind.i64 ((f143_27 v).F4_3 j), SV.int IntKind.i64 ((f143_27 v).F4_4 j), SV.int IntKind.i64 ((f143_27 v).F4_5 j), SV.int IntKind.i64 ((f143_27 v).F4_6 j), SV.int IntKind.u64 ((f143_27 v).F4_7 j), SV.int IntKind.i64 ((f143_27 v).F4_8 j)]) i) = true
noncomputable def f143_13 (v : V143) : (Nat) := (f143_27 v).n9
noncomputable def f143_14 (v : V143) : (Nat) := (f143_27 v).N4
noncomputable def f143_15 (v : V143) : Nat → (Int) := fun (j:Nat) => (f143_27 v).F4_0 j
noncomputable def f143_16 (v : V143) : Nat → (Int) := fun (j:Nat) => (f143_27 v).F4_1 j
noncomputable def f143_17 (v : V143) : Nat → (Int) := fun (j:Nat) => (f143_27 v).F4_2 j
noncomputable def f143_18 (v : V143) : Nat → (Int) := fun (j:Nat) => (f143_27 v).F4_3 j
noncomputable def f143_19 (v : V143) : Nat → (Int) := fun (j:Nat) => (f143_27 v).F4_4 j
noncomputable def f143_20 (v : V143) : Nat → (Int) := fun (j:Nat) => (f143_27 v).F4_5 j
noncomputable def f143_21 (v : V143) : Nat → (Int) := fun (j:Nat) => (f143_27 v).F4_6 j
noncomputable def f143_22 (v : V143) : Nat → (Int) := fun (j:Nat) => (f143_27 v).F4_7 j
noncomputable def f143_23 (v : V143) : Nat → (Int) := fun (j:Nat) => (f143_27 v).F4_8 j
theorem n_f143_0 (v : V143) : f143_0 v := by
 unfold f143_0
 (repeat' first | intro _ | apply And.intro) <;> first | rfl | exact absurd (by assumption) (Nat.not_lt_zero _) | exact scpL_rowSet (by rfl) (by rfl) | exact scpL_rowEl (by kernel_rfl) _ | omega | decide
theorem n_f143_1 (v : V143) : f143_1 v := by
 unfold f143_1
 (repeat' first | intro _ | apply And.intro) <;> first | rfl | exact absurd (by assumption) (Nat.not_lt_zero _) | exact scpL_rowSet (by rfl) (by rfl) | exact scpL_rowEl (by kernel_rfl) _ | omega | decide
theorem n_f143_3 (v : V143) : f143_3 v := by
 unfold f143_3
 (repeat' first | intro _ | apply And.intro) <;> first | rfl | exact absurd (by assumption) (Nat.not_lt_zero _) | exact scpL_rowSet (by rfl) (by rfl) | exact scpL_rowEl (by kernel_rfl) _ | omega | decide
theorem n_f143_4 (v : V143) : f143_4 v := by
 unfold f143_4
 (repeat' first | intro _ | apply And.intro) <;> first | rfl | exact absurd (by assumption) (Nat.not_lt_zero _) | exact scpL_rowSet (by rfl) (by rfl) | exact scpL_rowEl (by kernel_rfl) _ | omega | decide
theorem n_f143_7 (v : V143) : f143_7 v := by
 unfold f143_7
 (repeat' first | intro _ | apply And.intro) <;> first | rfl | exact absurd (by assumption) (Nat.not_lt_zero _) | exact scpL_rowSet (by rfl) (by rfl) | exact scpL_rowEl (by kernel_rfl) _ | omega | decide
theorem n_f143_8 (v : V143) : f143_8 v := by
 unfold f143_8
 (repeat' first | intro _ | apply And.intro) <;> first | rfl | exact absurd (by assumption) (Nat.not_lt_zero _) | exact scpL_rowSet (by rfl) (by rfl) | exact scpL_rowEl (by kernel_rfl) _ | omega | decide
theorem n_f143_12 (v : V143) : f143_12 v := by
 unfold f143_12
 (repeat' first | intro _ | apply And.intro) <;> first | rfl | exact absurd (by assumption) (Nat.not_lt_zero _) | exact scpL_rowSet (by rfl) (by rfl) | exact scpL_rowEl (by kernel_rfl) _ | omega | decide
noncomputable def ff143 (v : V143) : Tr (Fin th.R) := (Tr.need (f143_0 v) (Tr.need (f143_1 v) (Tr.need (f143_2 v) (Tr.need (f143_0 v) (Tr.need (f143_3 v) (Tr.need (f143_4 v) (Tr.need (f143_5 v) (Tr.need (f143_3 v) (Tr.need (f143_3 v) (Tr.need (f143_4 v) (Tr.need (f143_6 v) (Tr.need (f143_7 v) (Tr.need (f143_8 v) (Tr.need (f143_9 v) (Tr.ite (f143_10 v) (Tr.need (f143_0 v) (Tr.leaf ((SV.tup [(SV.agg [SV.int .u64 (v.z), (SV.slc (1) (9:Nat) (0:Nat) (v.L))]), SV.int .i64 (f143_11 v)]), [HO.gone, (HO.row (100:Nat) (9:Nat) (v.Q) (rw9 v.t v.k v.a v.b v.r v.g v.s v.m v.d))], [nat_lit 0]))) (Tr.need (f143_12 v) (Tr.leaf ((SV.tup [(SV.agg [SV.int .u64 (v.z), (SV.slc (1) (9:Nat) (0:Nat) (f143_13 v))]), (SV.int .i64 (0:Int))]), [(HO.row (100:Nat) (9:Nat) (v.Q) (rw9 v.t v.k v.a v.b v.r v.g v.s v.m v.d)), (HO.row (100:Nat) (9:Nat) (f143_14 v) (rw9 (f143_15 v) (f143_16 v) (f143_17 v) (f143_18 v) (f143_19 v) (f143_20 v) (f143_21 v) (f143_22 v) (f143_23 v)))], [nat_lit 0, (2:Nat), (1:Nat), (0:Nat)]))))))))))))))))))
noncomputable def f143 (v : V143) : Tr (Fin th.R) := (Tr.need (f143_2 v) (Tr.need (f143_5 v) (Tr.need (f143_6 v) (Tr.need (f143_9 v) (Tr.ite (f143_10 v) (Tr.leaf ((SV.tup [(SV.agg [SV.int .u64 (v.z), (SV.slc (1) (9:Nat) (0:Nat) (v.L))]), SV.int .i64 (f143_11 v)]), [HO.gone, (HO.row (100:Nat) (9:Nat) (v.Q) (fun j => [SV.int .u64 (v.t j), SV.int .i64 (v.k j), SV.int .u64 (v.a j), SV.int .i64 (v.b j), SV.int .i64 (v.r j), SV.int .i64 (v.g j), SV.int .i64 (v.s j), SV.int .u64 (v.m j), SV.int .i64 (v.d j)]))], [0])) (Tr.leaf ((SV.tup [(SV.agg [SV.int .u64 (v.z), (SV.slc (1) (9:Nat) (0:Nat) (f143_13 v))]), (SV.int .i64 (0:Int))]), [(HO.row (100:Nat) (9:Nat) (v.Q) (fun j => [SV.int .u64 (v.t j), SV.int .i64 (v.k j), SV.int .u64 (v.a j), SV.int .i64 (v.b j), SV.int .i64 (v.r j), SV.int .i64 (v.g j), SV.int .i64 (v.s j), SV.int .u64 (v.m j), SV.int .i64 (v.d j)])), (HO.row (100:Nat) (9:Nat) (f143_14 v) (fun j => [SV.int .u64 (f143_15 v j), SV.int .i64 (f143_16 v j), SV.int .u64 (f143_17 v j), SV.int .i64 (f143_18 v j), SV.int .i64 (f143_19 v j), SV.int .i64 (f143_20 v j), SV.int .i64 (f143_21 v j), SV.int .u64 (f143_22 v j), SV.int .i64 (f143_23 v j)]))], [0])))))))
noncomputable def C143 : CF th.R := fnC d143 ofV143 (f143 )
theorem q143 (v : V143) : (normC (evFn th Try.prog (auto th Try.prog nice66n [] 20) (autoH [(8, L143_0)] [] [] [9, 59] : Hints th) 143)) (A143 v) (H143 v) = some (ff143 v) := by kernel_rfl
theorem qg143 (v : V143) : ((ff143 v).map (setD [0])).get = (f143 v).get := by kernel_rfl
theorem qd143 (v : V143) : allD 1 [0] (ff143 v) = true := by kernel_rfl
theorem s143 : Sound Try.prog th 143 (C143 ) := fnC_sound (normC_sound (evFn_sound' (T := th) (P := Try.prog) (tbl := (auto th Try.prog nice66n [] 20)) (auto_sound (nice := nice66n) (us := []) nok66n 20) (H := (autoH [(8, L143_0)] [] [] [9, 59] : Hints th)) (k := 143) (fnLoops ok143))) d143 A143 H143 toV143 (by kernel_rfl) (fun v => by kernel_rfl)
 (fun l v h => by
  unfold ofV143 at h
  split at h
  ·cases h; rfl
  ·cases h)
 [0] (fun v => ⟨ff143 v, q143 v, fun h => by
  unfold f143 at h; unfold ff143
  simp only [Tr.ok, n_f143_0, n_f143_1, n_f143_3, n_f143_4, n_f143_7, n_f143_8, n_f143_12, true_and, and_true, forall_const, implies_true] at h ⊢
  try exact h, qg143 v, qd143 v⟩)
theorem qdd143 (v : V143) : (f143 v).get.2.2 = [0] := by
 rw [← qg143, Tr.map_get]; rfl
set_option maxRecDepth 100000
def ns143 (p : P143_0) : List Nd := nds (ndf p.F0_0 p.F0_1 p.F0_2 p.F0_3 p.F0_4 p.F0_5 p.F0_6 p.F0_7 p.F0_8) p.nh1_1
def nw143 (s : S143_0) : List Nd := nds (ndf s.F4_0 s.F4_1 s.F4_2 s.F4_3 s.F4_4 s.F4_5 s.F4_6 s.F4_7 s.F4_8) s.n9
def Q143 (B : List Nd) (s : S143_0) : Prop := s.N4 = s.n9 ∧ nw143 s = B
theorem l143 {p : P143_0} {s : S143_0} {B : List Nd} {i b : Nat} (hp : p.N0 = p.nh1_1 ∧ p.nh1_1 ≤ 100000) (hi : p.x7 = i ∧ i ≤ 100000) (hb : p.x8 = b ∧ b ≤ 100000) (hs : s.n9 = 0 ∧ s.N4 = 0 ∧ s.x10 = 0) (hB : rmG i b 0 (ns143 p) = B) : LT (r143_0 p) s ∧ Q143 B (lastS (r143_0 p) s) := by
 obtain ⟨hN, hL⟩ := hp
 obtain ⟨h7, hi⟩ := hi
 obtain ⟨h8, hb⟩ := hb
 have hlen : (ns143 p).length = p.nh1_1 := nds_len _ _
 refine LT.post (fun s : S143_0 => ∃ k : Nat, s.x10 = k ∧ k ≤ p.nh1_1 ∧ s.N4 = s.n9 ∧ s.n9 ≤ k ∧ nw143 s ++ rmG i b k ((ns143 p).drop k) = B) (Q143 B) (fun s : S143_0 => (p.nh1_1 - s.x10).toNat) ?_ ?_
 rotate_left
 ·refine ⟨0, hs.2.2, Nat.zero_le _, by rw [hs.1, hs.2.1], by rw [hs.1]; omega, ?_⟩
  have : nw143 s = [] := by unfold nw143; rw [hs.1]; rfl
  rw [this]
  exact hB
 rintro ⟨n9, x10, N4, F0, F1, F2, F3, F4, F5, F6, F7, F8⟩ ⟨k, g1, g3, g4, g5, g6⟩
 simp only at g1 g4 g5
 subst g1 g4
 have w2 : IntKind.i64.wrap ((k:Int) + 1) = ((k + 1:Nat):Int) := by rw [wi (by omega) (by omega)]; omega
 generalize hst : S143_0.mk N4 (k:Int) N4 F0 F1 F2 F3 F4 F5 F6 F7 F8 = st at *
 have x1 : st.x10 = k := by rw [← hst]
 have x2 : st.n9 = N4 := by rw [← hst]
 have x3 : st.N4 = N4 := by rw [← hst]
 have e19 : e143_0_19 p st = k := by unfold e143_0_19; rw [x1]; omega
 by_cases hc : k < p.nh1_1
 ·have hd : e143_0_0 p st = false := by
   unfold e143_0_0
   rw [x1, decide_eq_true (by omega)]; rfl
  have hk : k < (ns143 p).length := by rw [hlen]; exact hc
  have hg : (ns143 p)[k] = ndf p.F0_0 p.F0_1 p.F0_2 p.F0_3 p.F0_4 p.F0_5 p.F0_6 p.F0_7 p.F0_8 k := by
   have := gN_nds (f := ndf p.F0_0 p.F0_1 p.F0_2 p.F0_3 p.F0_4 p.F0_5 p.F0_6 p.F0_7 p.F0_8) hc
   rw [← this]
   show _ = gN (ns143 p) k
   simp [gN, List.getD, hk]
  rw [List.drop_eq_getElem_cons hk, hg] at g6
  unfold rmG at g6
  have hcd : cnd (decide (st.x10 > p.x7)) (decide (st.x10 ≤ e143_0_21 p st)) false = decide (i < k ∧ k ≤ i + b) := by
   unfold e143_0_21
   rw [x1, h7, h8, wi (by omega) (by omega), cnd_and, ← Bool.decide_and]
   congr 1
   exact propext ⟨fun h => by omega, fun h => by omega⟩
  have n2 : e143_0_2 p st := by unfold e143_0_2; rw [x1]; omega
  have n3 : e143_0_3 p st := by unfold e143_0_3; rw [e19, hN]; exact hc
  have n4 : e143_0_4 p st := fun _ => by
   unfold e143_0_20
   rw [x2, x3]
   exact ⟨rfl, Nat.le_refl _, Nat.le_refl _, by omega, by omega⟩
  by_cases hki : k = i
  ·have e5 : e143_0_5 p st = false := by unfold e143_0_5; rw [x1, h7, hki]; exact bne_self_eq_false _
   rw [if_neg (by simp [hki])] at g6
   simp only [r143_0, hd, e5, Tr.ok, Tr.get]
   refine ⟨⟨(fun e => by cases e), fun _ => ⟨n2, n3, n4, (fun e => by cases e), fun _ => trivial⟩⟩, .inr ⟨_, rfl, ⟨k + 1, ?_, hc, ?_, ?_, ?_⟩, ?_⟩⟩
   ·show e143_0_8 p st = _
    unfold e143_0_8; rw [x1]; exact w2
   ·show st.N4 = st.n9
    rw [x2, x3]
   ·show st.n9 ≤ k + 1
    rw [x2]; omega
   ·show nw143 st ++ _ = B
    exact g6
   ·show ((p.nh1_1:Int) - e143_0_8 p st).toNat < ((p.nh1_1:Int) - st.x10).toNat
    unfold e143_0_8; rw [x1, w2]; omega
  ·have e5 : e143_0_5 p st = true := by unfold e143_0_5; rw [x1, h7]; exact bne_iff_ne.2 (by omega)
   rw [if_pos hki] at g6
   simp only [r143_0, hd, e5, Tr.ok, Tr.get]
   refine ⟨⟨(fun e => by cases e), fun _ => ⟨n2, n3, n4, fun _ => trivial, (fun e => by cases e)⟩⟩, .inr ⟨_, rfl, ⟨k + 1, ?_, hc, ?_, ?_, ?_⟩, ?_⟩⟩
   ·show e143_0_8 p st = _
    unfold e143_0_8; rw [x1]; exact w2
   ·rfl
   ·show e143_0_20 p st ≤ k + 1
    unfold e143_0_20; rw [x2]; omega
   ·show nds (ndf (e143_0_9 p st) (e143_0_10 p st) (e143_0_11 p st) (e143_0_12 p st) (e143_0_13 p st) (e143_0_14 p st) (e143_0_15 p st) (e143_0_16 p st) (e143_0_17 p st)) (st.n9 + 1) ++ _ = B
    rw [nds_push (f := ndf st.F4_0 st.F4_1 st.F4_2 st.F4_3 st.F4_4 st.F4_5 st.F4_6 st.F4_7 st.F4_8) (x := (if i < k ∧ k ≤ i + b then { ndf p.F0_0 p.F0_1 p.F0_2 p.F0_3 p.F0_4 p.F0_5 p.F0_6 p.F0_7 p.F0_8 k with d := IntKind.i64.wrap ((ndf p.F0_0 p.F0_1 p.F0_2 p.F0_3 p.F0_4 p.F0_5 p.F0_6 p.F0_7 p.F0_8 k).d - 1) } else ndf p.F0_0 p.F0_1 p.F0_2 p.F0_3 p.F0_4 p.F0_5 p.F0_6 p.F0_7 p.F0_8 k)) ?_ ?_, List.append_assoc]
    ·exact g6
    ·intro j hj
     have hb2 : Nat.blt j st.n9 = true := by rw [bltT]; exact hj
     simp only [ndf, e143_0_9, e143_0_10, e143_0_11, e143_0_12, e143_0_13, e143_0_14, e143_0_15, e143_0_16, e143_0_17, hb2, cnd_t]
    ·have hb2 : Nat.blt st.n9 st.n9 = false := by
      cases hh : Nat.blt st.n9 st.n9 with
      | false => rfl
      | true => rw [bltT] at hh; omega
     simp only [ndf, e143_0_9, e143_0_10, e143_0_11, e143_0_12, e143_0_13, e143_0_14, e143_0_15, e143_0_16, e143_0_17, hb2, cnd_f, e143_0_23, e143_0_25, e143_0_27, e143_0_29, e143_0_31, e143_0_33, e143_0_35, e143_0_37, e143_0_39, cnd_same, hcd, e143_0_22, e143_0_24, e143_0_26, e143_0_28, e143_0_30, e143_0_32, e143_0_34, e143_0_36, e143_0_38, e19]
     by_cases hq : i < k ∧ k ≤ i + b
     ·rw [decide_eq_true hq, if_pos hq, cnd_t]
     ·rw [decide_eq_false hq, if_neg hq, cnd_f]
   ·show ((p.nh1_1:Int) - e143_0_8 p st).toNat < ((p.nh1_1:Int) - st.x10).toNat
    unfold e143_0_8; rw [x1, w2]; omega
 ·have hd : e143_0_0 p st = true := by
   unfold e143_0_0
   rw [x1, decide_eq_false (by omega)]; rfl
  rw [List.drop_eq_nil_of_le (by rw [hlen]; omega)] at g6
  simp only [r143_0, hd, Tr.ok, Tr.get]
  refine ⟨⟨fun _ => trivial, (fun e => by cases e)⟩, .inl ⟨⟨_, _, _, rfl⟩, by rw [x2, x3], ?_⟩⟩
  unfold rmG at g6
  rw [List.append_nil] at g6
  exact g6
def pre143 (v : V143) : Prop := (v.Q = v.L ∧ v.L ≤ 100000)
theorem n143 (v : V143) (h : pre143 v) : (f143 v).ok ∧ (f143 v).get.1 = .tup [.agg [.int .u64 v.z, .slc 1 9 0 (rmL v.z (nds (ndf v.t v.k v.a v.b v.r v.g v.s v.m v.d) v.L) v.at_).length], .int .i64 (hdT v.z (nds (ndf v.t v.k v.a v.b v.r v.g v.s v.m v.d) v.L) v.at_)] ∧ HOws (f143 v).get.2.1 [HO.gone, rowN (rmL v.z (nds (ndf v.t v.k v.a v.b v.r v.g v.s v.m v.d) v.L) v.at_)] := by
 have hQ : v.Q = v.L := h.1
 have hL : v.L ≤ 100000 := h.2
 have main : f143_25 v = false → LT (r143_0 (P143_0.mk (fnd (nds (ndf v.t v.k v.a v.b v.r v.g v.s v.m v.d) v.L) v.at_) (f143_26 v) v.Q v.t v.k v.a v.b v.r v.g v.s v.m v.d v.z v.L 0 (f143_26 v) fun j => (bwL (nds (ndf v.t v.k v.a v.b v.r v.g v.s v.m v.d) v.L) v.at_).getD j 0)) (S143_0.mk 0 0 0 (colI (fun _ => []) 0) (colI (fun _ => []) 1) (colI (fun _ => []) 2) (colI (fun _ => []) 3) (colI (fun _ => []) 4) (colI (fun _ => []) 5) (colI (fun _ => []) 6) (colI (fun _ => []) 7) (colI (fun _ => []) 8)) ∧ Q143 (rmG (fnd (nds (ndf v.t v.k v.a v.b v.r v.g v.s v.m v.d) v.L) v.at_).toNat (bwL (nds (ndf v.t v.k v.a v.b v.r v.g v.s v.m v.d) v.L) v.at_).length 0 (nds (ndf v.t v.k v.a v.b v.r v.g v.s v.m v.d) v.L)) (f143_27 v) := fun hz => by
  obtain ⟨h1, h2⟩ := hdT_fnd (f := ndf v.t v.k v.a v.b v.r v.g v.s v.m v.d) (L := v.L) (by simpa [f143_25, f143_24] using hz)
  have h3 := bwL_len (nds (ndf v.t v.k v.a v.b v.r v.g v.s v.m v.d) v.L) v.at_
  rw [nds_len] at h3
  exact l143 (i := (fnd (nds (ndf v.t v.k v.a v.b v.r v.g v.s v.m v.d) v.L) v.at_).toNat) (b := (bwL (nds (ndf v.t v.k v.a v.b v.r v.g v.s v.m v.d) v.L) v.at_).length) ⟨hQ, hL⟩ ⟨by show fnd _ _ = _; omega, by omega⟩ ⟨rfl, by omega⟩ ⟨rfl, rfl, rfl⟩ rfl
 have e25 : (hdT v.z (nds (ndf v.t v.k v.a v.b v.r v.g v.s v.m v.d) v.L) v.at_ != 0) = f143_25 v := rfl
 refine ⟨⟨h, fun _ => h, fun _ => h, fun hz => (main hz).1, fun _ => trivial, fun _ => trivial⟩, ?_, ?_⟩
 ·simp only [f143, Tr.get, f143_10, f143_11, rmL]
  rw [e25]
  cases hz : f143_25 v with
  | true => simp only [cnd_t, nds_len]; rfl
  | false =>
   obtain ⟨_, k2, k3⟩ := main hz
   have h0 : hdT v.z (nds (ndf v.t v.k v.a v.b v.r v.g v.s v.m v.d) v.L) v.at_ = 0 := by simpa [f143_25, f143_24] using hz
   rw [← k3, h0]
   simp only [cnd_f, nw143, nds_len, f143_13]
 ·simp only [f143, Tr.get, f143_10, rmL]
  rw [e25]
  cases hz : f143_25 v with
  | true => exact .cons (.inl rfl) (.cons (rowA hQ) .nil)
  | false =>
   obtain ⟨_, k2, k3⟩ := main hz
   rw [← k3]
   simp only [cnd_f, f143_14, f143_15, f143_16, f143_17, f143_18, f143_19, f143_20, f143_21, f143_22, f143_23]
   exact .cons (.inr (.inl rfl)) (.cons (rowA k2) .nil)
noncomputable def f143n (v : V143) : Tr (Fin th.R) := .need (pre143 v) (.leaf (.tup [.agg [.int .u64 v.z, .slc 1 9 0 (rmL v.z (nds (ndf v.t v.k v.a v.b v.r v.g v.s v.m v.d) v.L) v.at_).length], .int .i64 (hdT v.z (nds (ndf v.t v.k v.a v.b v.r v.g v.s v.m v.d) v.L) v.at_)], [.gone, rowN (rmL v.z (nds (ndf v.t v.k v.a v.b v.r v.g v.s v.m v.d) v.L) v.at_)], [0]))
theorem s143n : Sound Try.prog th 143 (fnC d143 ofV143 f143n) := fnC_refine s143 fun v h => by
 obtain ⟨hp, _⟩ := h
 obtain ⟨a, b, c⟩ := n143 v hp
 exact ⟨a, b.symm, (qdd143 v).symm, c, by show 1 ≤ 2; decide⟩
noncomputable def nice143n : List (Nat × CF th.R) := (143, lift (fnC d143 ofV143 f143n)) :: nice66n
theorem nok143n : NiceOk Try.prog th nice143n := ⟨lift_sound s143n, nok66n⟩
set_option maxRecDepth 100000
def pre142 (v : V142) : Prop := (v.Q = v.L ∧ v.L ≤ 100000)
theorem n142 (v : V142) (h : pre142 v) : (f142 v).ok ∧ (f142 v).get.1 = .tup [.agg [.int .u64 v.z, .slc 1 9 0 (swL v.z (nds (ndf v.t v.k v.a v.b v.r v.g v.s v.m v.d) v.L) v.a_ v.b_).length], .int .i64 (swR v.z (nds (ndf v.t v.k v.a v.b v.r v.g v.s v.m v.d) v.L) v.a_ v.b_)] ∧ HOws (f142 v).get.2.1 [HO.gone, rowN (swL v.z (nds (ndf v.t v.k v.a v.b v.r v.g v.s v.m v.d) v.L) v.a_ v.b_)] := by
 have hQ : v.Q = v.L := h.1
 have hL : v.L ≤ 100000 := h.2
 have e48 : f142_48 v = fnd (nds (ndf v.t v.k v.a v.b v.r v.g v.s v.m v.d) v.L) v.a_ := rfl
 have e50 : f142_50 v = fnd (nds (ndf v.t v.k v.a v.b v.r v.g v.s v.m v.d) v.L) v.b_ := rfl
 have h0 : f142_45 v = false → 0 ≤ f142_48 v ∧ f142_48 v < v.L ∧ f142_49 v = (f142_48 v).toNat := fun e => by
  obtain ⟨h1, h2⟩ := hdT_fnd (f := ndf v.t v.k v.a v.b v.r v.g v.s v.m v.d) (L := v.L) (by simpa [f142_45, f142_44] using e)
  exact ⟨h1, h2, by unfold f142_49; omega⟩
 have h1 : f142_47 v = false → 0 ≤ f142_50 v ∧ f142_50 v < v.L ∧ f142_51 v = (f142_50 v).toNat := fun e => by
  obtain ⟨h1, h2⟩ := hdT_fnd (f := ndf v.t v.k v.a v.b v.r v.g v.s v.m v.d) (L := v.L) (by simpa [f142_47, f142_46] using e)
  exact ⟨h1, h2, by unfold f142_51; omega⟩
 have e45 : (hdT v.z (nds (ndf v.t v.k v.a v.b v.r v.g v.s v.m v.d) v.L) v.a_ != 0) = f142_45 v := rfl
 have e47 : (hdT v.z (nds (ndf v.t v.k v.a v.b v.r v.g v.s v.m v.d) v.L) v.b_ != 0) = f142_47 v := rfl
 have hp : ∀ e : f142_45 v = false, f142_49 v < v.L ∧ 9 = 9 := fun e => ⟨by rw [(h0 e).2.2]; have := h0 e; omega, rfl⟩
 have hq : ∀ e : f142_47 v = false, f142_51 v < v.L ∧ 9 = 9 := fun e => ⟨by rw [(h1 e).2.2]; have := h1 e; omega, rfl⟩
 refine ⟨⟨h, fun _ => h, fun _ _ => h, fun _ _ => ⟨rfl, hL⟩, fun _ _ => ⟨rfl, hL⟩, fun e _ => ⟨(h0 e).1, (h0 e).2.1⟩, fun e _ => hp e, fun _ e => ⟨(h1 e).1, (h1 e).2.1⟩, fun _ e => hq e, fun e _ _ => ⟨(h0 e).1, (h0 e).2.1⟩, fun e _ _ => hp e, fun _ => trivial, fun _ => ⟨fun _ => trivial, fun _ => ⟨fun _ => trivial, fun _ => trivial⟩⟩⟩, ?_, ?_⟩
 ·simp only [f142, Tr.get, f142_19, f142_20, f142_21, f142_22, f142_23, swL, swR]
  rw [e45, e47]
  cases hz : f142_45 v with
  | true => simp only [cnd_t, nds_len]; rfl
  | false =>
   cases hy : f142_47 v with
   | true => simp only [cnd_t, cnd_f, nds_len]; rfl
   | false =>
    simp only [cnd_f, swp_len, nds_len]
    cases f142_52 v <;> rfl
 ·simp only [f142, Tr.get, f142_19, f142_21, f142_23, swL]
  rw [e45, e47]
  cases hz : f142_45 v with
  | true => exact .cons (.inl rfl) (.cons (rowA hQ) .nil)
  | false =>
   cases hy : f142_47 v with
   | true => exact .cons (.inl rfl) (.cons (rowA hQ) .nil)
   | false =>
    obtain ⟨q1, q2, q3⟩ := h0 hz
    obtain ⟨r1, r2, r3⟩ := h1 hy
    simp only [cnd_f]
    rw [← e48, ← e50, ← q3, ← r3]
    have hi : f142_49 v < v.L := (hp hz).1
    have hk : f142_51 v < v.L := (hq hy).1
    have hik : f142_52 v = decide (f142_49 v = f142_51 v) := by
     unfold f142_52
     rw [q3, r3]
     by_cases e : f142_48 v = f142_50 v
     ·rw [e]; simp
     ·rw [beq_eq_false_iff_ne.2 e]
      exact (decide_eq_false (by omega)).symm
    generalize hI : f142_49 v = I at hi hik
    generalize hK : f142_51 v = K at hk hik
    cases hx : f142_52 v with
    | true =>
     have hIK : I = K := by rw [hx] at hik; exact of_decide_eq_true hik.symm
     subst hIK
     refine .cons (.inr (.inl rfl)) (.cons (rowN_of (by simp [swp_len, nds_len]) fun j hj => ?_) .nil)
     have hj : j < v.L := hj
     rw [gN_swp hi hi hj]
     simp only [f142_25, f142_26, f142_27, f142_28, f142_29, f142_30, f142_31, f142_32, f142_33, f142_53, f142_54, f142_55, f142_56, f142_57, f142_58, f142_59, f142_60, f142_61, f142_62, f142_63, f142_64, f142_65, f142_66, f142_67, f142_68, hI, hK, cndB, beqT]
     by_cases hji : j = I
     ·subst hji; simp [ndC, ndf]
     ·simp [hji, ndC, ndf]
    | false =>
     have hIK : I ≠ K := by rw [hx] at hik; exact of_decide_eq_false hik.symm
     refine .cons (.inr (.inl rfl)) (.cons (rowN_of (by simp [swp_len, nds_len]) fun j hj => ?_) .nil)
     have hj : j < v.L := hj
     rw [gN_swp hi hk hj]
     simp only [f142_35, f142_36, f142_37, f142_38, f142_39, f142_40, f142_41, f142_42, f142_43, f142_53, f142_54, f142_55, f142_56, f142_57, f142_58, f142_59, f142_60, f142_61, f142_62, f142_63, f142_64, f142_65, f142_66, f142_67, f142_68, hI, hK, cndB, beqT]
     have hKI : K ≠ I := fun e => hIK e.symm
     by_cases hjk : j = K
     ·subst hjk; simp [hIK, hKI, ndC, ndf]
     ·by_cases hji : j = I
      ·subst hji; simp [hjk, hIK, ndC, ndf]
      ·simp [hjk, hji, ndC, ndf]
noncomputable def f142n (v : V142) : Tr (Fin th.R) := .need (pre142 v) (.leaf (.tup [.agg [.int .u64 v.z, .slc 1 9 0 (swL v.z (nds (ndf v.t v.k v.a v.b v.r v.g v.s v.m v.d) v.L) v.a_ v.b_).length], .int .i64 (swR v.z (nds (ndf v.t v.k v.a v.b v.r v.g v.s v.m v.d) v.L) v.a_ v.b_)], [.gone, rowN (swL v.z (nds (ndf v.t v.k v.a v.b v.r v.g v.s v.m v.d) v.L) v.a_ v.b_)], [0]))
theorem s142n : Sound Try.prog th 142 (fnC d142 ofV142 f142n) := fnC_refine s142 fun v h => by
 obtain ⟨hp, _⟩ := h
 obtain ⟨a, b, c⟩ := n142 v hp
 exact ⟨a, b.symm, (qdd142 v).symm, c, by show 1 ≤ 2; decide⟩
noncomputable def nice142n : List (Nat × CF th.R) := (142, lift (fnC d142 ofV142 f142n)) :: nice143n
theorem nok142n : NiceOk Try.prog th nice142n := ⟨lift_sound s142n, nok143n⟩
set_option maxRecDepth 100000
structure V64 where
 z : Int
 L : Nat
 ok : Int
 oa : Int
 ob : Int
 kc : Int
 ac : Int
 bc : Int
 rc : Int
 gc : Int
 sc : Int
 mc : Int
 Q : Nat
 t : Nat → Int
 k : Nat → Int
 a : Nat → Int
 b : Nat → Int
 r : Nat → Int
 g : Nat → Int
 s : Nat → Int
 m : Nat → Int
 d : Nat → Int
def A64 (v : V64) : List SV := [.agg [.int .u64 v.z, .slc 0 9 0 v.L], .agg [.int .i64 v.ok, .int .u64 v.oa, .int .u64 v.ob, .int .i64 v.kc, .int .u64 v.ac, .int .i64 v.bc, .int .i64 v.rc, .int .i64 v.gc, .int .i64 v.sc, .int .u64 v.mc]]
def H64 (v : V64) : List (HO th.R) := [.row 100 9 v.Q (rw9 v.t v.k v.a v.b v.r v.g v.s v.m v.d)]
def toV64 (v : V64) : List (Vl th.R) := [.i v.z, .n v.L, .i v.ok, .i v.oa, .i v.ob, .i v.kc, .i v.ac, .i v.bc, .i v.rc, .i v.gc, .i v.sc, .i v.mc, .n v.Q, .c v.t, .c v.k, .c v.a, .c v.b, .c v.r, .c v.g, .c v.s, .c v.m, .c v.d]
def ofV64 : List (Vl th.R) → Option V64
 | [.i z, .n L, .i ok, .i oa, .i ob, .i kc, .i ac, .i bc, .i rc, .i gc, .i sc, .i mc, .n Q, .c t, .c k, .c a, .c b, .c r, .c g, .c s, .c m, .c d] => some ⟨z, L, ok, oa, ob, kc, ac, bc, rc, gc, sc, mc, Q, t, k, a, b, r, g, s, m, d⟩
 | _ => none
def d64 : Ft := ⟨[.agg [.int .u64, .slc0 0 9], .agg [.int .i64, .int .u64, .int .u64, .int .i64, .int .u64, .int .i64, .int .i64, .int .i64, .int .i64, .int .u64]], [.rowc 100 [.int .u64, .int .i64, .int .u64, .int .i64, .int .i64, .int .i64, .int .i64, .int .u64, .int .i64]]⟩
noncomputable def f64_103 (v : V64) : (Nd) := Nd.mk v.oa v.kc v.ac v.bc v.rc v.gc v.sc v.mc (0:Int)
noncomputable def f64_104 (v : V64) : (Nd) := Nd.mk v.ob v.kc v.ac v.bc v.rc v.gc v.sc v.mc (0:Int)
noncomputable def f64_0 (v : V64) : (Prop) := (v.ok == (1:Int)) = true → ∀ (i:Nat), scpL (0:Nat) ((rw9 v.t v.k v.a v.b v.r v.g v.s v.m v.d) i) = true
noncomputable def f64_1 (v : V64) : (Prop) := (v.ok == (1:Int)) = true → ∀ (i:Nat), i < v.Q → (rw9 v.t v.k v.a v.b v.r v.g v.s v.m v.d) i = elC (rw9 v.t v.k v.a v.b v.r v.g v.s v.m v.d) (0:Nat) ck9 i
noncomputable def f64_2 (v : V64) : (Prop) := (v.ok == (1:Int)) = true → pre110 (V110.mk v.z v.L v.oa v.kc v.ac v.bc v.rc v.gc v.sc v.mc v.Q v.t v.k v.a v.b v.r v.g v.s v.m v.d)
noncomputable def f64_3 (v : V64) : (Prop) := (v.ok == (1:Int)) = true → ∀ (i:Nat), scpL (0:Nat) ((fun (j:Nat) => ndC (gN (rtL v.z (nds (ndf v.t v.k v.a v.b v.r v.g v.s v.m v.d) v.L) (f64_103 v)) j)) i) = true
noncomputable def f64_4 (v : V64) : (Prop) := (v.ok == (1:Int)) = false → (v.ok == (2:Int)) = true → ∀ (i:Nat), scpL (0:Nat) ((rw9 v.t v.k v.a v.b v.r v.g v.s v.m v.d) i) = true
noncomputable def f64_5 (v : V64) : (Prop) := (v.ok == (1:Int)) = false → (v.ok == (2:Int)) = true → ∀ (i:Nat), i < v.Q → (rw9 v.t v.k v.a v.b v.r v.g v.s v.m v.d) i = elC (rw9 v.t v.k v.a v.b v.r v.g v.s v.m v.d) (0:Nat) ck9 i
noncomputable def f64_6 (v : V64) : (Prop) := (v.ok == (1:Int)) = false → (v.ok == (2:Int)) = true → pre139 (V139.mk v.z v.L v.oa v.ob v.kc v.ac v.bc v.rc v.gc v.sc v.mc v.Q v.t v.k v.a v.b v.r v.g v.s v.m v.d)
noncomputable def f64_7 (v : V64) : (Prop) := (v.ok == (1:Int)) = false → (v.ok == (2:Int)) = true → ∀ (i:Nat), scpL (0:Nat) ((fun (j:Nat) => ndC (gN (chL v.z (nds (ndf v.t v.k v.a v.b v.r v.g v.s v.m v.d) v.L) v.oa (f64_104 v)) j)) i) = true
noncomputable def f64_8 (v : V64) : (Prop) := (v.ok == (1:Int)) = false → (v.ok == (2:Int)) = false → (v.ok == (3:Int)) = true → ∀ (i:Nat), scpL (0:Nat) ((rw9 v.t v.k v.a v.b v.r v.g v.s v.m v.d) i) = true
noncomputable def f64_9 (v : V64) : (Prop) := (v.ok == (1:Int)) = false → (v.ok == (2:Int)) = false → (v.ok == (3:Int)) = true → ∀ (i:Nat), i < v.Q → (rw9 v.t v.k v.a v.b v.r v.g v.s v.m v.d) i = elC (rw9 v.t v.k v.a v.b v.r v.g v.s v.m v.d) (0:Nat) ck9 i
noncomputable def f64_10 (v : V64) : (Prop) := (v.ok == (1:Int)) = false → (v.ok == (2:Int)) = false → (v.ok == (3:Int)) = true → pre140 (V140.mk v.z v.L v.oa v.kc v.ac v.bc v.rc v.gc v.sc v.mc v.Q v.t v.k v.a v.b v.r v.g v.s v.m v.d)
noncomputable def f64_11 (v : V64) : (Prop) := (v.ok == (1:Int)) = false → (v.ok == (2:Int)) = false → (v.ok == (3:Int)) = true → ∀ (i:Nat), scpL (0:Nat) ((fun (j:Nat) => ndC (gN (seL v.z (nds (ndf v.t v.k v.a v.b v.r v.g v.s v.m v.d) v.L) (f64_103 v)) j)) i) = true
noncomputable def f64_12 (v : V64) : (Prop) := (v.ok == (1:Int)) = false → (v.ok == (2:Int)) = false → (v.ok == (3:Int)) = false → (v.ok == (4:Int)) = true → ∀ (i:Nat), scpL (0:Nat) ((rw9 v.t v.k v.a v.b v.r v.g v.s v.m v.d) i) = true
noncomputable def f64_13 (v : V64) : (Prop) := (v.ok == (1:Int)) = false → (v.ok == (2:Int)) = false → (v.ok == (3:Int)) = false → (v.ok == (4:Int)) = true → ∀ (i:Nat), i < v.Q → (rw9 v.t v.k v.a v.b v.r v.g v.s v.m v.d) i = elC (rw9 v.t v.k v.a v.b v.r v.g v.s v.m v.d) (0:Nat) ck9 i
noncomputable def f64_14 (v : V64) : (Prop) := (v.ok == (1:Int)) = false → (v.ok == (2:Int)) = false → (v.ok == (3:Int)) = false → (v.ok == (4:Int)) = true → pre141 (V141.mk v.z v.L v.oa v.ob v.Q v.t v.k v.a v.b v.r v.g v.s v.m v.d)
noncomputable def f64_15 (v : V64) : (Prop) := (v.ok == (1:Int)) = false → (v.ok == (2:Int)) = false → (v.ok == (3:Int)) = false → (v.ok == (4:Int)) = true → ∀ (i:Nat), scpL (0:Nat) ((fun (j:Nat) => ndC (gN (mvL v.z (nds (ndf v.t v.k v.a v.b v.r v.g v.s v.m v.d) v.L) v.oa v.ob) j)) i) = true
noncomputable def f64_16 (v : V64) : (Prop) := (v.ok == (1:Int)) = false → (v.ok == (2:Int)) = false → (v.ok == (3:Int)) = false → (v.ok == (4:Int)) = false → (v.ok == (5:Int)) = true → ∀ (i:Nat), scpL (0:Nat) ((rw9 v.t v.k v.a v.b v.r v.g v.s v.m v.d) i) = true
noncomputable def f64_17 (v : V64) : (Prop) := (v.ok == (1:Int)) = false → (v.ok == (2:Int)) = false → (v.ok == (3:Int)) = false → (v.ok == (4:Int)) = false → (v.ok == (5:Int)) = true → ∀ (i:Nat), i < v.Q → (rw9 v.t v.k v.a v.b v.r v.g v.s v.m v.d) i = elC (rw9 v.t v.k v.a v.b v.r v.g v.s v.m v.d) (0:Nat) ck9 i
noncomputable def f64_18 (v : V64) : (Prop) := (v.ok == (1:Int)) = false → (v.ok == (2:Int)) = false → (v.ok == (3:Int)) = false → (v.ok == (4:Int)) = false → (v.ok == (5:Int)) = true → pre142 (V142.mk v.z v.L v.oa v.ob v.Q v.t v.k v.a v.b v.r v.g v.s v.m v.d)
noncomputable def f64_19 (v : V64) : (Prop) := (v.ok == (1:Int)) = false → (v.ok == (2:Int)) = false → (v.ok == (3:Int)) = false → (v.ok == (4:Int)) = false → (v.ok == (5:Int)) = true → ∀ (i:Nat), scpL (0:Nat) ((fun (j:Nat) => ndC (gN (swL v.z (nds (ndf v.t v.k v.a v.b v.r v.g v.s v.m v.d) v.L) v.oa v.ob) j)) i) = true
noncomputable def f64_20 (v : V64) : (Prop) := (v.ok == (1:Int)) = false → (v.ok == (2:Int)) = false → (v.ok == (3:Int)) = false → (v.ok == (4:Int)) = false → (v.ok == (5:Int)) = false → (v.ok == (6:Int)) = true → ∀ (i:Nat), scpL (0:Nat) ((rw9 v.t v.k v.a v.b v.r v.g v.s v.m v.d) i) = true
noncomputable def f64_21 (v : V64) : (Prop) := (v.ok == (1:Int)) = false → (v.ok == (2:Int)) = false → (v.ok == (3:Int)) = false → (v.ok == (4:Int)) = false → (v.ok == (5:Int)) = false → (v.ok == (6:Int)) = true → ∀ (i:Nat), i < v.Q → (rw9 v.t v.k v.a v.b v.r v.g v.s v.m v.d) i = elC (rw9 v.t v.k v.a v.b v.r v.g v.s v.m v.d) (0:Nat) ck9 i
noncomputable def f64_22 (v : V64) : (Prop) := (v.ok == (1:Int)) = false → (v.ok == (2:Int)) = false → (v.ok == (3:Int)) = false → (v.ok == (4:Int)) = false → (v.ok == (5:Int)) = false → (v.ok == (6:Int)) = true → pre143 (V143.mk v.z v.L v.oa v.Q v.t v.k v.a v.b v.r v.g v.s v.m v.d)
noncomputable def f64_23 (v : V64) : (Prop) := (v.ok == (1:Int)) = false → (v.ok == (2:Int)) = false → (v.ok == (3:Int)) = false → (v.ok == (4:Int)) = false → (v.ok == (5:Int)) = false → (v.ok == (6:Int)) = true → ∀ (i:Nat), scpL (0:Nat) ((fun (j:Nat) => ndC (gN (rmL v.z (nds (ndf v.t v.k v.a v.b v.r v.g v.s v.m v.d) v.L) v.oa) j)) i) = true
noncomputable def f64_24 (v : V64) : (Bool) := v.ok == (1:Int)
noncomputable def f64_25 (v : V64) : (Prop) := ∀ (i:Nat), scpL (0:Nat) ((fun (j:Nat) => ndC (gN (rtL v.z (nds (ndf v.t v.k v.a v.b v.r v.g v.s v.m v.d) v.L) (f64_103 v)) j)) i) = true
noncomputable def f64_26 (v : V64) : (Nat) := (rtL v.z (nds (ndf v.t v.k v.a v.b v.r v.g v.s v.m v.d) v.L) (f64_103 v)).length
noncomputable def f64_27 (v : V64) : (Int) := rtR v.z (nds (ndf v.t v.k v.a v.b v.r v.g v.s v.m v.d) v.L) (f64_103 v)
noncomputable def f64_28 (v : V64) : Nat → (Int) := fun (j:Nat) => (gN (rtL v.z (nds (ndf v.t v.k v.a v.b v.r v.g v.s v.m v.d) v.L) (f64_103 v)) j).t
noncomputable def f64_29 (v : V64) : Nat → (Int) := fun (j:Nat) => (gN (rtL v.z (nds (ndf v.t v.k v.a v.b v.r v.g v.s v.m v.d) v.L) (f64_103 v)) j).k
noncomputable def f64_30 (v : V64) : Nat → (Int) := fun (j:Nat) => (gN (rtL v.z (nds (ndf v.t v.k v.a v.b v.r v.g v.s v.m v.d) v.L) (f64_103 v)) j).a
noncomputable def f64_31 (v : V64) : Nat → (Int) := fun (j:Nat) => (gN (rtL v.z (nds (ndf v.t v.k v.a v.b v.r v.g v.s v.m v.d) v.L) (f64_103 v)) j).b
noncomputable def f64_32 (v : V64) : Nat → (Int) := fun (j:Nat) => (gN (rtL v.z (nds (ndf v.t v.k v.a v.b v.r v.g v.s v.m v.d) v.L) (f64_103 v)) j).r
noncomputable def f64_33 (v : V64) : Nat → (Int) := fun (j:Nat) => (gN (rtL v.z (nds (ndf v.t v.k v.a v.b v.r v.g v.s v.m v.d) v.L) (f64_103 v)) j).g
noncomputable def f64_34 (v : V64) : Nat → (Int) := fun (j:Nat) => (gN (rtL v.z (nds (ndf v.t v.k v.a v.b v.r v.g v.s v.m v.d) v.L) (f64_103 v)) j).s
noncomputable def f64_35 (v : V64) : Nat → (Int) := fun (j:Nat) => (gN (rtL v.z (nds (ndf v.t v.k v.a v.b v.r v.g v.s v.m v.d) v.L) (f64_103 v)) j).m
noncomputable def f64_36 (v : V64) : Nat → (Int) := fun (j:Nat) => (gN (rtL v.z (nds (ndf v.t v.k v.a v.b v.r v.g v.s v.m v.d) v.L) (f64_103 v)) j).d
noncomputable def f64_37 (v : V64) : (Bool) := v.ok == (2:Int)
noncomputable def f64_38 (v : V64) : (Prop) := ∀ (i:Nat), scpL (0:Nat) ((fun (j:Nat) => ndC (gN (chL v.z (nds (ndf v.t v.k v.a v.b v.r v.g v.s v.m v.d) v.L) v.oa (f64_104 v)) j)) i) = true
noncomputable def f64_39 (v : V64) : (Nat) := (chL v.z (nds (ndf v.t v.k v.a v.b v.r v.g v.s v.m v.d) v.L) v.oa (f64_104 v)).length
noncomputable def f64_40 (v : V64) : (Int) := chR v.z (nds (ndf v.t v.k v.a v.b v.r v.g v.s v.m v.d) v.L) v.oa (f64_104 v)
noncomputable def f64_41 (v : V64) : Nat → (Int) := fun (j:Nat) => (gN (chL v.z (nds (ndf v.t v.k v.a v.b v.r v.g v.s v.m v.d) v.L) v.oa (f64_104 v)) j).t
noncomputable def f64_42 (v : V64) : Nat → (Int) := fun (j:Nat) => (gN (chL v.z (nds (ndf v.t v.k v.a v.b v.r v.g v.s v.m v.d) v.L) v.oa (f64_104 v)) j).k
noncomputable def f64_43 (v : V64) : Nat → (Int) := fun (j:Nat) => (gN (chL v.z (nds (ndf v.t v.k v.a v.b v.r v.g v.s v.m v.d) v.L) v.oa (f64_104 v)) j).a
noncomputable def f64_44 (v : V64) : Nat → (Int) := fun (j:Nat) => (gN (chL v.z (nds (ndf v.t v.k v.a v.b v.r v.g v.s v.m v.d) v.L) v.oa (f64_104 v)) j).b
noncomputable def f64_45 (v : V64) : Nat → (Int) := fun (j:Nat) => (gN (chL v.z (nds (ndf v.t v.k v.a v.b v.r v.g v.s v.m v.d) v.L) v.oa (f64_104 v)) j).r
noncomputable def f64_46 (v : V64) : Nat → (Int) := fun (j:Nat) => (gN (chL v.z (nds (ndf v.t v.k v.a v.b v.r v.g v.s v.m v.d) v.L) v.oa (f64_104 v)) j).g
noncomputable def f64_47 (v : V64) : Nat → (Int) := fun (j:Nat) => (gN (chL v.z (nds (ndf v.t v.k v.a v.b v.r v.g v.s v.m v.d) v.L) v.oa (f64_104 v)) j).s
noncomputable def f64_48 (v : V64) : Nat → (Int) := fun (j:Nat) => (gN (chL v.z (nds (ndf v.t v.k v.a v.b v.r v.g v.s v.m v.d) v.L) v.oa (f64_104 v)) j).m
noncomputable def f64_49 (v : V64) : Nat → (Int) := fun (j:Nat) => (gN (chL v.z (nds (ndf v.t v.k v.a v.b v.r v.g v.s v.m v.d) v.L) v.oa (f64_104 v)) j).d
noncomputable def f64_50 (v : V64) : (Bool) := v.ok == (3:Int)
noncomputable def f64_51 (v : V64) : (Prop) := ∀ (i:Nat), scpL (0:Nat) ((fun (j:Nat) => ndC (gN (seL v.z (nds (ndf v.t v.k v.a v.b v.r v.g v.s v.m v.d) v.L) (f64_103 v)) j)) i) = true
noncomputable def f64_52 (v : V64) : (Nat) := (seL v.z (nds (ndf v.t v.k v.a v.b v.r v.g v.s v.m v.d) v.L) (f64_103 v)).length
noncomputable def f64_53 (v : V64) : (Int) := seR v.z (nds (ndf v.t v.k v.a v.b v.r v.g v.s v.m v.d) v.L) (f64_103 v)
noncomputable def f64_54 (v : V64) : Nat → (Int) := fun (j:Nat) => (gN (seL v.z (nds (ndf v.t v.k v.a v.b v.r v.g v.s v.m v.d) v.L) (f64_103 v)) j).t
noncomputable def f64_55 (v : V64) : Nat → (Int) := fun (j:Nat) => (gN (seL v.z (nds (ndf v.t v.k v.a v.b v.r v.g v.s v.m v.d) v.L) (f64_103 v)) j).k
noncomputable def f64_56 (v : V64) : Nat → (Int) := fun (j:Nat) => (gN (seL v.z (nds (ndf v.t v.k v.a v.b v.r v.g v.s v.m v.d) v.L) (f64_103 v)) j).a
noncomputable def f64_57 (v : V64) : Nat → (Int) := fun (j:Nat) => (gN (seL v.z (nds (ndf v.t v.k v.a v.b v.r v.g v.s v.m v.d) v.L) (f64_103 v)) j).b
noncomputable def f64_58 (v : V64) : Nat → (Int) := fun (j:Nat) => (gN (seL v.z (nds (ndf v.t v.k v.a v.b v.r v.g v.s v.m v.d) v.L) (f64_103 v)) j).r
noncomputable def f64_59 (v : V64) : Nat → (Int) := fun (j:Nat) => (gN (seL v.z (nds (ndf v.t v.k v.a v.b v.r v.g v.s v.m v.d) v.L) (f64_103 v)) j).g
noncomputable def f64_60 (v : V64) : Nat → (Int) := fun (j:Nat) => (gN (seL v.z (nds (ndf v.t v.k v.a v.b v.r v.g v.s v.m v.d) v.L) (f64_103 v)) j).s
noncomputable def f64_61 (v : V64) : Nat → (Int) := fun (j:Nat) => (gN (seL v.z (nds (ndf v.t v.k v.a v.b v.r v.g v.s v.m v.d) v.L) (f64_103 v)) j).m
noncomputable def f64_62 (v : V64) : Nat → (Int) := fun (j:Nat) => (gN (seL v.z (nds (ndf v.t v.k v.a v.b v.r v.g v.s v.m v.d) v.L) (f64_103 v)) j).d
noncomputable def f64_63 (v : V64) : (Bool) := v.ok == (4:Int)
noncomputable def f64_64 (v : V64) : (Prop) := ∀ (i:Nat), scpL (0:Nat) ((fun (j:Nat) => ndC (gN (mvL v.z (nds (ndf v.t v.k v.a v.b v.r v.g v.s v.m v.d) v.L) v.oa v.ob) j)) i) = true
noncomputable def f64_65 (v : V64) : (Nat) := (mvL v.z (nds (ndf v.t v.k v.a v.b v.r v.g v.s v.m v.d) v.L) v.oa v.ob).length
noncomputable def f64_66 (v : V64) : (Int) := mvR v.z (nds (ndf v.t v.k v.a v.b v.r v.g v.s v.m v.d) v.L) v.oa v.ob
noncomputable def f64_67 (v : V64) : Nat → (Int) := fun (j:Nat) => (gN (mvL v.z (nds (ndf v.t v.k v.a v.b v.r v.g v.s v.m v.d) v.L) v.oa v.ob) j).t
noncomputable def f64_68 (v : V64) : Nat → (Int) := fun (j:Nat) => (gN (mvL v.z (nds (ndf v.t v.k v.a v.b v.r v.g v.s v.m v.d) v.L) v.oa v.ob) j).k
noncomputable def f64_69 (v : V64) : Nat → (Int) := fun (j:Nat) => (gN (mvL v.z (nds (ndf v.t v.k v.a v.b v.r v.g v.s v.m v.d) v.L) v.oa v.ob) j).a
noncomputable def f64_70 (v : V64) : Nat → (Int) := fun (j:Nat) => (gN (mvL v.z (nds (ndf v.t v.k v.a v.b v.r v.g v.s v.m v.d) v.L) v.oa v.ob) j).b
noncomputable def f64_71 (v : V64) : Nat → (Int) := fun (j:Nat) => (gN (mvL v.z (nds (ndf v.t v.k v.a v.b v.r v.g v.s v.m v.d) v.L) v.oa v.ob) j).r
noncomputable def f64_72 (v : V64) : Nat → (Int) := fun (j:Nat) => (gN (mvL v.z (nds (ndf v.t v.k v.a v.b v.r v.g v.s v.m v.d) v.L) v.oa v.ob) j).g
noncomputable def f64_73 (v : V64) : Nat → (Int) := fun (j:Nat) => (gN (mvL v.z (nds (ndf v.t v.k v.a v.b v.r v.g v.s v.m v.d) v.L) v.oa v.ob) j).s
noncomputable def f64_74 (v : V64) : Nat → (Int) := fun (j:Nat) => (gN (mvL v.z (nds (ndf v.t v.k v.a v.b v.r v.g v.s v.m v.d) v.L) v.oa v.ob) j).m
noncomputable def f64_75 (v : V64) : Nat → (Int) := fun (j:Nat) => (gN (mvL v.z (nds (ndf v.t v.k v.a v.b v.r v.g v.s v.m v.d) v.L) v.oa v.ob) j).d
noncomputable def f64_76 (v : V64) : (Bool) := v.ok == (5:Int)
noncomputable def f64_77 (v : V64) : (Prop) := ∀ (i:Nat), scpL (0:Nat) ((fun (j:Nat) => ndC (gN (swL v.z (nds (ndf v.t v.k v.a v.b v.r v.g v.s v.m v.d) v.L) v.oa v.ob) j)) i) = true
noncomputable def f64_78 (v : V64) : (Nat) := (swL v.z (nds (ndf v.t v.k v.a v.b v.r v.g v.s v.m v.d) v.L) v.oa v.ob).length
noncomputable def f64_79 (v : V64) : (Int) := swR v.z (nds (ndf v.t v.k v.a v.b v.r v.g v.s v.m v.d) v.L) v.oa v.ob
noncomputable def f64_80 (v : V64) : Nat → (Int) := fun (j:Nat) => (gN (swL v.z (nds (ndf v.t v.k v.a v.b v.r v.g v.s v.m v.d) v.L) v.oa v.ob) j).t
noncomputable def f64_81 (v : V64) : Nat → (Int) := fun (j:Nat) => (gN (swL v.z (nds (ndf v.t v.k v.a v.b v.r v.g v.s v.m v.d) v.L) v.oa v.ob) j).k
noncomputable def f64_82 (v : V64) : Nat → (Int) := fun (j:Nat) => (gN (swL v.z (nds (ndf v.t v.k v.a v.b v.r v.g v.s v.m v.d) v.L) v.oa v.ob) j).a
noncomputable def f64_83 (v : V64) : Nat → (Int) := fun (j:Nat) => (gN (swL v.z (nds (ndf v.t v.k v.a v.b v.r v.g v.s v.m v.d) v.L) v.oa v.ob) j).b
noncomputable def f64_84 (v : V64) : Nat → (Int) := fun (j:Nat) => (gN (swL v.z (nds (ndf v.t v.k v.a v.b v.r v.g v.s v.m v.d) v.L) v.oa v.ob) j).r
noncomputable def f64_85 (v : V64) : Nat → (Int) := fun (j:Nat) => (gN (swL v.z (nds (ndf v.t v.k v.a v.b v.r v.g v.s v.m v.d) v.L) v.oa v.ob) j).g
noncomputable def f64_86 (v : V64) : Nat → (Int) := fun (j:Nat) => (gN (swL v.z (nds (ndf v.t v.k v.a v.b v.r v.g v.s v.m v.d) v.L) v.oa v.ob) j).s
noncomputable def f64_87 (v : V64) : Nat → (Int) := fun (j:Nat) => (gN (swL v.z (nds (ndf v.t v.k v.a v.b v.r v.g v.s v.m v.d) v.L) v.oa v.ob) j).m
noncomputable def f64_88 (v : V64) : Nat → (Int) := fun (j:Nat) => (gN (swL v.z (nds (ndf v.t v.k v.a v.b v.r v.g v.s v.m v.d) v.L) v.oa v.ob) j).d
noncomputable def f64_89 (v : V64) : (Bool) := v.ok == (6:Int)
noncomputable def f64_90 (v : V64) : (Prop) := ∀ (i:Nat), scpL (0:Nat) ((fun (j:Nat) => ndC (gN (rmL v.z (nds (ndf v.t v.k v.a v.b v.r v.g v.s v.m v.d) v.L) v.oa) j)) i) = true
noncomputable def f64_91 (v : V64) : (Nat) := (rmL v.z (nds (ndf v.t v.k v.a v.b v.r v.g v.s v.m v.d) v.L) v.oa).length
noncomputable def f64_92 (v : V64) : (Int) := hdT v.z (nds (ndf v.t v.k v.a v.b v.r v.g v.s v.m v.d) v.L) v.oa
noncomputable def f64_93 (v : V64) : Nat → (Int) := fun (j:Nat) => (gN (rmL v.z (nds (ndf v.t v.k v.a v.b v.r v.g v.s v.m v.d) v.L) v.oa) j).t
noncomputable def f64_94 (v : V64) : Nat → (Int) := fun (j:Nat) => (gN (rmL v.z (nds (ndf v.t v.k v.a v.b v.r v.g v.s v.m v.d) v.L) v.oa) j).k
noncomputable def f64_95 (v : V64) : Nat → (Int) := fun (j:Nat) => (gN (rmL v.z (nds (ndf v.t v.k v.a v.b v.r v.g v.s v.m v.d) v.L) v.oa) j).a
noncomputable def f64_96 (v : V64) : Nat → (Int) := fun (j:Nat) => (gN (rmL v.z (nds (ndf v.t v.k v.a v.b v.r v.g v.s v.m v.d) v.L) v.oa) j).b
noncomputable def f64_97 (v : V64) : Nat → (Int) := fun (j:Nat) => (gN (rmL v.z (nds (ndf v.t v.k v.a v.b v.r v.g v.s v.m v.d) v.L) v.oa) j).r
noncomputable def f64_98 (v : V64) : Nat → (Int) := fun (j:Nat) => (gN (rmL v.z (nds (ndf v.t v.k v.a v.b v.r v.g v.s v.m v.d) v.L) v.oa) j).g
noncomputable def f64_99 (v : V64) : Nat → (Int) := fun (j:Nat) => (gN (rmL v.z (nds (ndf v.t v.k v.a v.b v.r v.g v.s v.m v.d) v.L) v.oa) j).s
noncomputable def f64_100 (v : V64) : Nat → (Int) := fun (j:Nat) => (gN (rmL v.z (nds (ndf v.t v.k v.a v.b v.r v.g v.s v.m v.d) v.L) v.oa) j).m
noncomputable def f64_101 (v : V64) : Nat → (Int) := fun (j:Nat) => (gN (rmL v.z (nds (ndf v.t v.k v.a v.b v.r v.g v.s v.m v.d) v.L) v.oa) j).d
noncomputable def f64_102 (v : V64) : (Prop) := ∀ (i:Nat), scpL (0:Nat) ((rw9 v.t v.k v.a v.b v.r v.g v.s v.m v.d) i) = true
theorem n_f64_0 (v : V64) : f64_0 v := by
 unfold f64_0
 (repeat' first | intro _ | apply And.intro) <;> first | rfl | exact absurd (by assumption) (Nat.not_lt_zero _) | exact scpL_rowSet (by rfl) (by rfl) | exact scpL_rowEl (by kernel_rfl) _ | omega | decide
theorem n_f64_1 (v : V64) : f64_1 v := by
 unfold f64_1
 (repeat' first | intro _ | apply And.intro) <;> first | rfl | exact absurd (by assumption) (Nat.not_lt_zero _) | exact scpL_rowSet (by rfl) (by rfl) | exact scpL_rowEl (by kernel_rfl) _ | omega | decide
theorem n_f64_3 (v : V64) : f64_3 v := by
 unfold f64_3
 (repeat' first | intro _ | apply And.intro) <;> first | rfl | exact absurd (by assumption) (Nat.not_lt_zero _) | exact scpL_rowSet (by rfl) (by rfl) | exact scpL_rowEl (by kernel_rfl) _ | omega | decide
theorem n_f64_4 (v : V64) : f64_4 v := by
 unfold f64_4
 (repeat' first | intro _ | apply And.intro) <;> first | rfl | exact absurd (by assumption) (Nat.not_lt_zero _) | exact scpL_rowSet (by rfl) (by rfl) | exact scpL_rowEl (by kernel_rfl) _ | omega | decide
theorem n_f64_5 (v : V64) : f64_5 v := by
 unfold f64_5
 (repeat' first | intro _ | apply And.intro) <;> first | rfl | exact absurd (by assumption) (Nat.not_lt_zero _) | exact scpL_rowSet (by rfl) (by rfl) | exact scpL_rowEl (by kernel_rfl) _ | omega | decide
theorem n_f64_7 (v : V64) : f64_7 v := by
 unfold f64_7
 (repeat' first | intro _ | apply And.intro) <;> first | rfl | exact absurd (by assumption) (Nat.not_lt_zero _) | exact scpL_rowSet (by rfl) (by rfl) | exact scpL_rowEl (by kernel_rfl) _ | omega | decide
theorem n_f64_8 (v : V64) : f64_8 v := by
 unfold f64_8
 (repeat' first | intro _ | apply And.intro) <;> first | rfl | exact absurd (by assumption) (Nat.not_lt_zero _) | exact scpL_rowSet (by rfl) (by rfl) | exact scpL_rowEl (by kernel_rfl) _ | omega | decide
theorem n_f64_9 (v : V64) : f64_9 v := by
 unfold f64_9
 (repeat' first | intro _ | apply And.intro) <;> first | rfl | exact absurd (by assumption) (Nat.not_lt_zero _) | exact scpL_rowSet (by rfl) (by rfl) | exact scpL_rowEl (by kernel_rfl) _ | omega | decide
theorem n_f64_11 (v : V64) : f64_11 v := by
 unfold f64_11
 (repeat' first | intro _ | apply And.intro) <;> first | rfl | exact absurd (by assumption) (Nat.not_lt_zero _) | exact scpL_rowSet (by rfl) (by rfl) | exact scpL_rowEl (by kernel_rfl) _ | omega | decide
theorem n_f64_12 (v : V64) : f64_12 v := by
 unfold f64_12
 (repeat' first | intro _ | apply And.intro) <;> first | rfl | exact absurd (by assumption) (Nat.not_lt_zero _) | exact scpL_rowSet (by rfl) (by rfl) | exact scpL_rowEl (by kernel_rfl) _ | omega | decide
theorem n_f64_13 (v : V64) : f64_13 v := by
 unfold f64_13
 (repeat' first | intro _ | apply And.intro) <;> first | rfl | exact absurd (by assumption) (Nat.not_lt_zero _) | exact scpL_rowSet (by rfl) (by rfl) | exact scpL_rowEl (by kernel_rfl) _ | omega | decide
theorem n_f64_15 (v : V64) : f64_15 v := by
 unfold f64_15
 (repeat' first | intro _ | apply And.intro) <;> first | rfl | exact absurd (by assumption) (Nat.not_lt_zero _) | exact scpL_rowSet (by rfl) (by rfl) | exact scpL_rowEl (by kernel_rfl) _ | omega | decide
theorem n_f64_16 (v : V64) : f64_16 v := by
 unfold f64_16
 (repeat' first | intro _ | apply And.intro) <;> first | rfl | exact absurd (by assumption) (Nat.not_lt_zero _) | exact scpL_rowSet (by rfl) (by rfl) | exact scpL_rowEl (by kernel_rfl) _ | omega | decide
theorem n_f64_17 (v : V64) : f64_17 v := by
 unfold f64_17
 (repeat' first | intro _ | apply And.intro) <;> first | rfl | exact absurd (by assumption) (Nat.not_lt_zero _) | exact scpL_rowSet (by rfl) (by rfl) | exact scpL_rowEl (by kernel_rfl) _ | omega | decide
theorem n_f64_19 (v : V64) : f64_19 v := by
 unfold f64_19
 (repeat' first | intro _ | apply And.intro) <;> first | rfl | exact absurd (by assumption) (Nat.not_lt_zero _) | exact scpL_rowSet (by rfl) (by rfl) | exact scpL_rowEl (by kernel_rfl) _ | omega | decide
theorem n_f64_20 (v : V64) : f64_20 v := by
 unfold f64_20
 (repeat' first | intro _ | apply And.intro) <;> first | rfl | exact absurd (by assumption) (Nat.not_lt_zero _) | exact scpL_rowSet (by rfl) (by rfl) | exact scpL_rowEl (by kernel_rfl) _ | omega | decide
theorem n_f64_21 (v : V64) : f64_21 v := by
 unfold f64_21
 (repeat' first | intro _ | apply And.intro) <;> first | rfl | exact absurd (by assumption) (Nat.not_lt_zero _) | exact scpL_rowSet (by rfl) (by rfl) | exact scpL_rowEl (by kernel_rfl) _ | omega | decide
theorem n_f64_23 (v : V64) : f64_23 v := by
 unfold f64_23
 (repeat' first | intro _ | apply And.intro) <;> first | rfl | exact absurd (by assumption) (Nat.not_lt_zero _) | exact scpL_rowSet (by rfl) (by rfl) | exact scpL_rowEl (by kernel_rfl) _ | omega | decide
theorem n_f64_25 (v : V64) : f64_25 v := by
 unfold f64_25
 (repeat' first | intro _ | apply And.intro) <;> first | rfl | exact absurd (by assumption) (Nat.not_lt_zero _) | exact scpL_rowSet (by rfl) (by rfl) | exact scpL_rowEl (by kernel_rfl) _ | omega | decide
theorem n_f64_38 (v : V64) : f64_38 v := by
 unfold f64_38
 (repeat' first | intro _ | apply And.intro) <;> first | rfl | exact absurd (by assumption) (Nat.not_lt_zero _) | exact scpL_rowSet (by rfl) (by rfl) | exact scpL_rowEl (by kernel_rfl) _ | omega | decide
theorem n_f64_51 (v : V64) : f64_51 v := by
 unfold f64_51
 (repeat' first | intro _ | apply And.intro) <;> first | rfl | exact absurd (by assumption) (Nat.not_lt_zero _) | exact scpL_rowSet (by rfl) (by rfl) | exact scpL_rowEl (by kernel_rfl) _ | omega | decide
theorem n_f64_64 (v : V64) : f64_64 v := by
 unfold f64_64
 (repeat' first | intro _ | apply And.intro) <;> first | rfl | exact absurd (by assumption) (Nat.not_lt_zero _) | exact scpL_rowSet (by rfl) (by rfl) | exact scpL_rowEl (by kernel_rfl) _ | omega | decide
theorem n_f64_77 (v : V64) : f64_77 v := by
 unfold f64_77
 (repeat' first | intro _ | apply And.intro) <;> first | rfl | exact absurd (by assumption) (Nat.not_lt_zero _) | exact scpL_rowSet (by rfl) (by rfl) | exact scpL_rowEl (by kernel_rfl) _ | omega | decide
theorem n_f64_90 (v : V64) : f64_90 v := by
 unfold f64_90
 (repeat' first | intro _ | apply And.intro) <;> first | rfl | exact absurd (by assumption) (Nat.not_lt_zero _) | exact scpL_rowSet (by rfl) (by rfl) | exact scpL_rowEl (by kernel_rfl) _ | omega | decide
theorem n_f64_102 (v : V64) : f64_102 v := by
 unfold f64_102
 (repeat' first | intro _ | apply And.intro) <;> first | rfl | exact absurd (by assumption) (Nat.not_lt_zero _) | exact scpL_rowSet (by rfl) (by rfl) | exact scpL_rowEl (by kernel_rfl) _ | omega | decide
noncomputable def ff64 (v : V64) : Tr (Fin th.R) := (Tr.need (f64_0 v) (Tr.need (f64_1 v) (Tr.need (f64_2 v) (Tr.need (f64_3 v) (Tr.need (f64_4 v) (Tr.need (f64_5 v) (Tr.need (f64_6 v) (Tr.need (f64_7 v) (Tr.need (f64_8 v) (Tr.need (f64_9 v) (Tr.need (f64_10 v) (Tr.need (f64_11 v) (Tr.need (f64_12 v) (Tr.need (f64_13 v) (Tr.need (f64_14 v) (Tr.need (f64_15 v) (Tr.need (f64_16 v) (Tr.need (f64_17 v) (Tr.need (f64_18 v) (Tr.need (f64_19 v) (Tr.need (f64_20 v) (Tr.need (f64_21 v) (Tr.need (f64_22 v) (Tr.need (f64_23 v) (Tr.ite (f64_24 v) (Tr.need (f64_25 v) (Tr.leaf ((SV.tup [(SV.agg [SV.int .u64 (v.z), (SV.slc (1) (9:Nat) (0:Nat) (f64_26 v))]), SV.int .i64 (f64_27 v)]), [HO.gone, (HO.row (100:Nat) (9:Nat) (f64_26 v) (rw9 (f64_28 v) (f64_29 v) (f64_30 v) (f64_31 v) (f64_32 v) (f64_33 v) (f64_34 v) (f64_35 v) (f64_36 v)))], [nat_lit 0, 3, (0:Nat), 4]))) (Tr.ite (f64_37 v) (Tr.need (f64_38 v) (Tr.leaf ((SV.tup [(SV.agg [SV.int .u64 (v.z), (SV.slc (1) (9:Nat) (0:Nat) (f64_39 v))]), SV.int .i64 (f64_40 v)]), [HO.gone, (HO.row (100:Nat) (9:Nat) (f64_39 v) (rw9 (f64_41 v) (f64_42 v) (f64_43 v) (f64_44 v) (f64_45 v) (f64_46 v) (f64_47 v) (f64_48 v) (f64_49 v)))], [nat_lit 0, 3, (0:Nat), 4]))) (Tr.ite (f64_50 v) (Tr.need (f64_51 v) (Tr.leaf ((SV.tup [(SV.agg [SV.int .u64 (v.z), (SV.slc (1) (9:Nat) (0:Nat) (f64_52 v))]), SV.int .i64 (f64_53 v)]), [HO.gone, (HO.row (100:Nat) (9:Nat) (f64_52 v) (rw9 (f64_54 v) (f64_55 v) (f64_56 v) (f64_57 v) (f64_58 v) (f64_59 v) (f64_60 v) (f64_61 v) (f64_62 v)))], [nat_lit 0, 3, (0:Nat), 4]))) (Tr.ite (f64_63 v) (Tr.need (f64_64 v) (Tr.leaf ((SV.tup [(SV.agg [SV.int .u64 (v.z), (SV.slc (1) (9:Nat) (0:Nat) (f64_65 v))]), SV.int .i64 (f64_66 v)]), [HO.gone, (HO.row (100:Nat) (9:Nat) (f64_65 v) (rw9 (f64_67 v) (f64_68 v) (f64_69 v) (f64_70 v) (f64_71 v) (f64_72 v) (f64_73 v) (f64_74 v) (f64_75 v)))], [nat_lit 0, 3, (0:Nat), 4]))) (Tr.ite (f64_76 v) (Tr.need (f64_77 v) (Tr.leaf ((SV.tup [(SV.agg [SV.int .u64 (v.z), (SV.slc (1) (9:Nat) (0:Nat) (f64_78 v))]), SV.int .i64 (f64_79 v)]), [HO.gone, (HO.row (100:Nat) (9:Nat) (f64_78 v) (rw9 (f64_80 v) (f64_81 v) (f64_82 v) (f64_83 v) (f64_84 v) (f64_85 v) (f64_86 v) (f64_87 v) (f64_88 v)))], [nat_lit 0, 3, (0:Nat), 4]))) (Tr.ite (f64_89 v) (Tr.need (f64_90 v) (Tr.leaf ((SV.tup [(SV.agg [SV.int .u64 (v.z), (SV.slc (1) (9:Nat) (0:Nat) (f64_91 v))]), SV.int .i64 (f64_92 v)]), [HO.gone, (HO.row (100:Nat) (9:Nat) (f64_91 v) (rw9 (f64_93 v) (f64_94 v) (f64_95 v) (f64_96 v) (f64_97 v) (f64_98 v) (f64_99 v) (f64_100 v) (f64_101 v)))], [nat_lit 0, 3, (0:Nat), 4]))) (Tr.need (f64_102 v) (Tr.leaf ((SV.tup [(SV.agg [SV.int .u64 (v.z), (SV.slc (1) (9:Nat) (0:Nat) (v.L))]), (SV.int .i64 (0:Int))]), [HO.gone, (HO.row (100:Nat) (9:Nat) (v.Q) (rw9 v.t v.k v.a v.b v.r v.g v.s v.m v.d))], [nat_lit 0])))))))))))))))))))))))))))))))))
noncomputable def f64 (v : V64) : Tr (Fin th.R) := (Tr.need (f64_2 v) (Tr.need (f64_6 v) (Tr.need (f64_10 v) (Tr.need (f64_14 v) (Tr.need (f64_18 v) (Tr.need (f64_22 v) (Tr.ite (f64_24 v) (Tr.leaf ((SV.tup [(SV.agg [SV.int .u64 (v.z), (SV.slc (1) (9:Nat) (0:Nat) (f64_26 v))]), SV.int .i64 (f64_27 v)]), [HO.gone, (HO.row (100:Nat) (9:Nat) (f64_26 v) (fun j => [SV.int .u64 (f64_28 v j), SV.int .i64 (f64_29 v j), SV.int .u64 (f64_30 v j), SV.int .i64 (f64_31 v j), SV.int .i64 (f64_32 v j), SV.int .i64 (f64_33 v j), SV.int .i64 (f64_34 v j), SV.int .u64 (f64_35 v j), SV.int .i64 (f64_36 v j)]))], [0])) (Tr.ite (f64_37 v) (Tr.leaf ((SV.tup [(SV.agg [SV.int .u64 (v.z), (SV.slc (1) (9:Nat) (0:Nat) (f64_39 v))]), SV.int .i64 (f64_40 v)]), [HO.gone, (HO.row (100:Nat) (9:Nat) (f64_39 v) (fun j => [SV.int .u64 (f64_41 v j), SV.int .i64 (f64_42 v j), SV.int .u64 (f64_43 v j), SV.int .i64 (f64_44 v j), SV.int .i64 (f64_45 v j), SV.int .i64 (f64_46 v j), SV.int .i64 (f64_47 v j), SV.int .u64 (f64_48 v j), SV.int .i64 (f64_49 v j)]))], [0])) (Tr.ite (f64_50 v) (Tr.leaf ((SV.tup [(SV.agg [SV.int .u64 (v.z), (SV.slc (1) (9:Nat) (0:Nat) (f64_52 v))]), SV.int .i64 (f64_53 v)]), [HO.gone, (HO.row (100:Nat) (9:Nat) (f64_52 v) (fun j => [SV.int .u64 (f64_54 v j), SV.int .i64 (f64_55 v j), SV.int .u64 (f64_56 v j), SV.int .i64 (f64_57 v j), SV.int .i64 (f64_58 v j), SV.int .i64 (f64_59 v j), SV.int .i64 (f64_60 v j), SV.int .u64 (f64_61 v j), SV.int .i64 (f64_62 v j)]))], [0])) (Tr.ite (f64_63 v) (Tr.leaf ((SV.tup [(SV.agg [SV.int .u64 (v.z), (SV.slc (1) (9:Nat) (0:Nat) (f64_65 v))]), SV.int .i64 (f64_66 v)]), [HO.gone, (HO.row (100:Nat) (9:Nat) (f64_65 v) (fun j => [SV.int .u64 (f64_67 v j), SV.int .i64 (f64_68 v j), SV.int .u64 (f64_69 v j), SV.int .i64 (f64_70 v j), SV.int .i64 (f64_71 v j), SV.int .i64 (f64_72 v j), SV.int .i64 (f64_73 v j), SV.int .u64 (f64_74 v j), SV.int .i64 (f64_75 v j)]))], [0])) (Tr.ite (f64_76 v) (Tr.leaf ((SV.tup [(SV.agg [SV.int .u64 (v.z), (SV.slc (1) (9:Nat) (0:Nat) (f64_78 v))]), SV.int .i64 (f64_79 v)]), [HO.gone, (HO.row (100:Nat) (9:Nat) (f64_78 v) (fun j => [SV.int .u64 (f64_80 v j), SV.int .i64 (f64_81 v j), SV.int .u64 (f64_82 v j), SV.int .i64 (f64_83 v j), SV.int .i64 (f64_84 v j), SV.int .i64 (f64_85 v j), SV.int .i64 (f64_86 v j), SV.int .u64 (f64_87 v j), SV.int .i64 (f64_88 v j)]))], [0])) (Tr.ite (f64_89 v) (Tr.leaf ((SV.tup [(SV.agg [SV.int .u64 (v.z), (SV.slc (1) (9:Nat) (0:Nat) (f64_91 v))]), SV.int .i64 (f64_92 v)]), [HO.gone, (HO.row (100:Nat) (9:Nat) (f64_91 v) (fun j => [SV.int .u64 (f64_93 v j), SV.int .i64 (f64_94 v j), SV.int .u64 (f64_95 v j), SV.int .i64 (f64_96 v j), SV.int .i64 (f64_97 v j), SV.int .i64 (f64_98 v j), SV.int .i64 (f64_99 v j), SV.int .u64 (f64_100 v j), SV.int .i64 (f64_101 v j)]))], [0])) (Tr.leaf ((SV.tup [(SV.agg [SV.int .u64 (v.z), (SV.slc (1) (9:Nat) (0:Nat) (v.L))]), (SV.int .i64 (0:Int))]), [HO.gone, (HO.row (100:Nat) (9:Nat) (v.Q) (fun j => [SV.int .u64 (v.t j), SV.int .i64 (v.k j), SV.int .u64 (v.a j), SV.int .i64 (v.b j), SV.int .i64 (v.r j), SV.int .i64 (v.g j), SV.int .i64 (v.s j), SV.int .u64 (v.m j), SV.int .i64 (v.d j)]))], [0]))))))))))))))
noncomputable def C64 : CF th.R := fnC d64 ofV64 (f64 )
theorem q64 (v : V64) : (normC (evFn th Try.prog (auto th Try.prog nice142n [] 20) (autoH [] [] [] [] : Hints th) 64)) (A64 v) (H64 v) = some (ff64 v) := by kernel_rfl
theorem qg64 (v : V64) : ((ff64 v).map (setD [0])).get = (f64 v).get := by kernel_rfl
theorem qd64 (v : V64) : allD 1 [0] (ff64 v) = true := by kernel_rfl
theorem s64 : Sound Try.prog th 64 (C64 ) := fnC_sound (normC_sound (evFn_sound' (T := th) (P := Try.prog) (tbl := (auto th Try.prog nice142n [] 20)) (auto_sound (nice := nice142n) (us := []) nok142n 20) (H := (autoH [] [] [] [] : Hints th)) (k := 64) (fnLoops (LoopsOk_mem (fun _ => rfl) _ fun _ _ _ e => by cases e)))) d64 A64 H64 toV64 (by kernel_rfl) (fun v => by kernel_rfl)
 (fun l v h => by
  unfold ofV64 at h
  split at h
  ·cases h; rfl
  ·cases h)
 [0] (fun v => ⟨ff64 v, q64 v, fun h => by
  unfold f64 at h; unfold ff64
  simp only [Tr.ok, n_f64_0, n_f64_1, n_f64_3, n_f64_4, n_f64_5, n_f64_7, n_f64_8, n_f64_9, n_f64_11, n_f64_12, n_f64_13, n_f64_15, n_f64_16, n_f64_17, n_f64_19, n_f64_20, n_f64_21, n_f64_23, n_f64_25, n_f64_38, n_f64_51, n_f64_64, n_f64_77, n_f64_90, n_f64_102, true_and, and_true, forall_const, implies_true] at h ⊢
  try exact h, qg64 v, qd64 v⟩)
theorem qdd64 (v : V64) : (f64 v).get.2.2 = [0] := by
 rw [← qg64, Tr.map_get]; rfl
set_option maxRecDepth 100000
structure V54 where
 ok : Int
 oa : Int
 ob : Int
 kc : Int
 ac : Int
 bc : Int
 rc : Int
 gc : Int
 sc : Int
 mc : Int
 f : Int
 c : Int
 M : th.R
def A54 (v : V54) : List SV := [.ptr 0 0, .agg [.int .i64 v.ok, .int .u64 v.oa, .int .u64 v.ob, .int .i64 v.kc, .int .u64 v.ac, .int .i64 v.bc, .int .i64 v.rc, .int .i64 v.gc, .int .i64 v.sc, .int .u64 v.mc]]
def H54 (v : V54) : List (HO th.R) := [.cells 175 [.ptr 1 0, .int .u64 v.f, .int .i64 v.c], .res v.M]
def toV54 (v : V54) : List (Vl th.R) := [.i v.ok, .i v.oa, .i v.ob, .i v.kc, .i v.ac, .i v.bc, .i v.rc, .i v.gc, .i v.sc, .i v.mc, .i v.f, .i v.c, .r v.M]
def ofV54 : List (Vl th.R) → Option V54
 | [.i ok, .i oa, .i ob, .i kc, .i ac, .i bc, .i rc, .i gc, .i sc, .i mc, .i f, .i c, .r M] => some ⟨ok, oa, ob, kc, ac, bc, rc, gc, sc, mc, f, c, M⟩
 | _ => none
def d54 : Ft := ⟨[.ptr 0 0, .agg [.int .i64, .int .u64, .int .u64, .int .i64, .int .u64, .int .i64, .int .i64, .int .i64, .int .i64, .int .u64]], [.cells 175 [.ptr 1 0, .int .u64, .int .i64], .res]⟩
noncomputable def f54_10 (v : V54) : (Sl) := Sl.mk v.kc v.ac v.bc v.rc v.gc v.sc v.mc (0:Int) (0:Int) (0:Int)
noncomputable def f54_11 (v : V54) : (TS) := rtT (TS.mk v.M v.f v.c) v.oa (f54_10 v)
noncomputable def f54_12 (v : V54) : (TS) := chT (TS.mk v.M v.f v.c) v.oa v.ob (f54_10 v)
noncomputable def f54_0 (v : V54) : (Prop) := (v.ok == (1:Int)) = true → pre109 (V109.mk v.oa v.kc v.ac v.bc v.rc v.gc v.sc v.mc v.f v.c v.M)
noncomputable def f54_1 (v : V54) : (Prop) := (v.ok == (1:Int)) = false → (v.ok == (2:Int)) = true → pre56 (V56.mk v.oa v.ob v.kc v.ac v.bc v.rc v.gc v.sc v.mc v.f v.c v.M)
noncomputable def f54_2 (v : V54) : (Prop) := (v.ok == (1:Int)) = false → (v.ok == (2:Int)) = false → (v.ok == (3:Int)) = true → pre130 (V130.mk v.oa v.kc v.ac v.bc v.rc v.gc v.sc v.mc v.f v.c v.M)
noncomputable def f54_3 (v : V54) : (Prop) := (v.ok == (1:Int)) = false → (v.ok == (2:Int)) = false → (v.ok == (3:Int)) = false → (v.ok == (4:Int)) = true → pre61 (V61.mk v.oa v.ob v.f v.c v.M)
noncomputable def f54_4 (v : V54) : (Prop) := (v.ok == (1:Int)) = false → (v.ok == (2:Int)) = false → (v.ok == (3:Int)) = false → (v.ok == (4:Int)) = false → (v.ok == (5:Int)) = true → pre131 (V131.mk v.oa v.ob v.f v.c v.M)
noncomputable def f54_5 (v : V54) : (Prop) := (v.ok == (1:Int)) = false → (v.ok == (2:Int)) = false → (v.ok == (3:Int)) = false → (v.ok == (4:Int)) = false → (v.ok == (5:Int)) = false → (v.ok == (6:Int)) = true → pre63 (V63.mk v.oa v.f v.c v.M)
noncomputable def f54_6 (v : V54) : (Int) := cnd (v.ok == (1:Int)) (rtE (TS.mk v.M v.f v.c) v.oa (f54_10 v)) (cnd (v.ok == (2:Int)) (chE (TS.mk v.M v.f v.c) v.oa v.ob (f54_10 v)) (cnd (v.ok == (3:Int)) (seE (TS.mk v.M v.f v.c) v.oa (f54_10 v)) (cnd (v.ok == (4:Int)) (mvE (TS.mk v.M v.f v.c) v.oa v.ob) (cnd (v.ok == (5:Int)) (swE (TS.mk v.M v.f v.c) v.oa v.ob) (cnd (v.ok == (6:Int)) (rmE (TS.mk v.M v.f v.c) v.oa) (0:Int))))))
noncomputable def f54_7 (v : V54) : (Int) := cnd (v.ok == (1:Int)) (f54_11 v).f (cnd (v.ok == (2:Int)) (f54_12 v).f (cnd (v.ok == (3:Int)) v.f (cnd (v.ok == (4:Int)) (mvT (TS.mk v.M v.f v.c) v.oa v.ob).f (cnd (v.ok == (5:Int)) (swT (TS.mk v.M v.f v.c) v.oa v.ob).f (cnd (v.ok == (6:Int)) (rmT (TS.mk v.M v.f v.c) v.oa).f v.f)))))
noncomputable def f54_8 (v : V54) : (Int) := cnd (v.ok == (1:Int)) (f54_11 v).c (cnd (v.ok == (2:Int)) (f54_12 v).c (cnd (v.ok == (3:Int)) v.c (cnd (v.ok == (4:Int)) (mvT (TS.mk v.M v.f v.c) v.oa v.ob).c (cnd (v.ok == (5:Int)) (swT (TS.mk v.M v.f v.c) v.oa v.ob).c (cnd (v.ok == (6:Int)) (rmT (TS.mk v.M v.f v.c) v.oa).c v.c)))))
noncomputable def f54_9 (v : V54) : (Mem) := mrgM (v.ok == (1:Int)) (f54_11 v).M (mrgM (v.ok == (2:Int)) (f54_12 v).M (mrgM (v.ok == (3:Int)) (seT (TS.mk v.M v.f v.c) v.oa (f54_10 v)).M (mrgM (v.ok == (4:Int)) (mvT (TS.mk v.M v.f v.c) v.oa v.ob).M (mrgM (v.ok == (5:Int)) (swT (TS.mk v.M v.f v.c) v.oa v.ob).M (mrgM (v.ok == (6:Int)) (rmT (TS.mk v.M v.f v.c) v.oa).M v.M)))))
noncomputable def ff54 (v : V54) : Tr (Fin th.R) := (Tr.need (f54_0 v) (Tr.need (f54_1 v) (Tr.need (f54_2 v) (Tr.need (f54_3 v) (Tr.need (f54_4 v) (Tr.need (f54_5 v) (Tr.leaf (SV.int .i64 (f54_6 v), [(HO.cells (175:Nat) [(SV.ptr (1:Nat) (0:Nat)), SV.int .u64 (f54_7 v), SV.int .i64 (f54_8 v)]), HO.res (f54_9 v)], [(0:Nat), (1:Nat), (0:Nat), (1:Nat), (1:Nat), (0:Nat), (1:Nat), (0:Nat), (1:Nat), (0:Nat), (1:Nat)]))))))))
noncomputable def f54 (v : V54) : Tr (Fin th.R) := (Tr.need (f54_0 v) (Tr.need (f54_1 v) (Tr.need (f54_2 v) (Tr.need (f54_3 v) (Tr.need (f54_4 v) (Tr.need (f54_5 v) (Tr.leaf (SV.int .i64 (f54_6 v), [(HO.cells (175:Nat) [(SV.ptr (1:Nat) (0:Nat)), SV.int .u64 (f54_7 v), SV.int .i64 (f54_8 v)]), HO.res (f54_9 v)], [0, 1]))))))))
noncomputable def C54 : CF th.R := fnC d54 ofV54 (f54 )
theorem q54 (v : V54) : (evFn th Try.prog (auto th Try.prog nice142n [] 20) (autoH [] [] [] [] : Hints th) 54) (A54 v) (H54 v) = some (ff54 v) := by kernel_rfl
theorem qg54 (v : V54) : ((ff54 v).map (setD [0, 1])).get = (f54 v).get := by kernel_rfl
theorem qd54 (v : V54) : allD 2 [0, 1] (ff54 v) = true := by kernel_rfl
theorem s54 : Sound Try.prog th 54 (C54 ) := fnC_sound (evFn_sound' (T := th) (P := Try.prog) (tbl := (auto th Try.prog nice142n [] 20)) (auto_sound (nice := nice142n) (us := []) nok142n 20) (H := (autoH [] [] [] [] : Hints th)) (k := 54) (fnLoops (LoopsOk_mem (fun _ => rfl) _ fun _ _ _ e => by cases e))) d54 A54 H54 toV54 (by kernel_rfl) (fun v => by kernel_rfl)
 (fun l v h => by
  unfold ofV54 at h
  split at h
  ·cases h; rfl
  ·cases h)
 [0, 1] (fun v => ⟨ff54 v, q54 v, id, qg54 v, qd54 v⟩)
theorem qdd54 (v : V54) : (f54 v).get.2.2 = [0, 1] := by
 rw [← qg54, Tr.map_get]; rfl
theorem RepS.mem {t : TS} {k1 r : List Nd} {y : Nd} {σ : Int → Sl} (h : RepS t (k1 ++ y :: r) σ) : Go.Sx.M.hdE t.M y.t = 0 ∧ Go.Sx.M.ld t.M y.t = sN y (hdA r 0) (lsA k1 0) ∧ U64 y.t := by
 have hm : y ∈ k1 ++ y :: r := by simp
 have ok := h.ok y hm
 have hu : U64 y.t := ⟨ok.at_.1, by have := ok.at_.2.2; have := h.E.s2; omega⟩
 obtain ⟨_, q⟩ := DL_app.1 h.dl
 obtain ⟨q, _⟩ := q
 have hl : Go.Sx.M.ld t.M y.t = sN y (hdA r 0) (lsA k1 0) := (h.E.ld ok.at_).1.trans q
 refine ⟨?_, hl, hu⟩
 unfold Go.Sx.M.hdE
 rw [(h.E.ld ok.at_).2, hl]
 have : (sN y (hdA r 0) (lsA k1 0)).k = y.k := rfl
 rw [this, beq_eq_false_iff_ne.2 ok.k]
 rfl
theorem hdT_mem {t : TS} {l : List Nd} {σ : Int → Sl} (h : RepS t l σ) {y : Nd} (hm : y ∈ l) : hdT t.M.size l y.t = 0 := by
 obtain ⟨k1, r, rfl⟩ := List.append_of_mem hm
 obtain ⟨a, _, c⟩ := h.mem
 rw [← h.hdE c]
 exact a
theorem RepS.bl {t : TS} {d : Int} : ∀ {r k1 : List Nd} {σ : Int → Sl} {n : Nat}, RepS t (k1 ++ r) σ → r.length ≤ n → blF t.M d n (hdA r 0) = (r.takeWhile (fun x => decide (x.d > d))).map Nd.t
 | [], _, _, n, _, _ => by
  exact (blF_stop (a := hdA [] 0) (.inl rfl)).trans rfl
 | y :: r, k1, σ, n, h, hn => by
  obtain ⟨m, rfl⟩ : ∃ m, n = m + 1 := ⟨n - 1, by simp at hn; omega⟩
  obtain ⟨e1, e2, e3⟩ := h.mem
  have hnz : y.t ≠ 0 := (h.ok y (by simp)).nz
  have hd : (sN y (hdA r 0) (lsA k1 0)).d = y.d := rfl
  have hx : (sN y (hdA r 0) (lsA k1 0)).x = hdA r 0 := rfl
  show blF t.M d (m + 1) y.t = _
  rw [List.takeWhile_cons]
  by_cases hc : y.d > d
  ·rw [blF_on hnz (by rw [e1, e2, hd]; intro e; rcases e with e | e <;> omega) rfl, e2, hx, decide_eq_true hc]
   have h' : RepS t ((k1 ++ [y]) ++ r) σ := by simpa using h
   rw [RepS.bl h' (by simp at hn; omega)]
   rfl
  ·rw [blF_stop (.inr (.inr (.inr (by rw [e2, hd]; omega)))), decide_eq_false hc]
   rfl
theorem RepS.len_le {t : TS} {l : List Nd} {σ : Int → Sl} (h : RepS t l σ) : (l.length:Int) ≤ t.c := by rw [h.c]; exact Int.le_refl _
theorem mem_tw {α : Type} {p : α → Bool} : ∀ {l : List α} {x : α}, x ∈ l.takeWhile p → p x = true
 | [], _, h => by cases h
 | y :: l, x, h => by
  rw [List.takeWhile_cons] at h
  cases hp : p y with
  | true =>
   rw [hp] at h
   rcases List.mem_cons.1 h with rfl | h
   ·exact hp
   ·exact mem_tw h
  | false => rw [hp] at h; cases h
def dW (x : Nd) : Nd := { x with d := IntKind.i64.wrap (x.d - 1) }
theorem rmG_C {i b : Nat} : ∀ (r : List Nd) (k:Nat), i + b < k → rmG i b k r = r
 | [], _, _ => rfl
 | x :: r, k, h => by
  unfold rmG
  rw [if_pos (by omega), if_neg (by omega), rmG_C r (k + 1) (by omega)]
theorem rmG_B {i b : Nat} {r : List Nd} : ∀ (lb : List Nd) (k:Nat), i < k → k + lb.length = i + b + 1 → rmG i b k (lb ++ r) = lb.map dW ++ r
 | [], k, h1, h2 => by
  simp only [List.length_nil] at h2
  exact rmG_C r k (by omega)
 | x :: lb, k, h1, h2 => by
  simp only [List.length_cons] at h2
  show rmG i b k (x :: (lb ++ r)) = _
  unfold rmG
  rw [if_pos (by omega), if_pos (by omega), rmG_B lb (k + 1) (by omega) (by omega)]
  rfl
theorem rmG_A {i b : Nat} {g : Nd} {r : List Nd} : ∀ (l1 : List Nd) (k:Nat), k + l1.length = i → rmG i b k (l1 ++ g :: r) = l1 ++ rmG i b (i + 1) r
 | [], k, h => by
  simp only [List.length_nil, Nat.add_zero] at h
  subst h
  show rmG k b k (g :: r) = _
  rw [rmG, if_neg (by simp)]
  rfl
 | x :: l1, k, h => by
  simp only [List.length_cons] at h
  show rmG i b k (x :: (l1 ++ g :: r)) = _
  rw [rmG, if_pos (by omega), if_neg (by omega), rmG_A l1 (k + 1) (by omega)]
  rfl
theorem hdA_dN (lb l3 : List Nd) (n:Int) : hdA (lb.map dN ++ l3) n = hdA (lb ++ l3) n := by
 cases lb <;> rfl
theorem RepS.below {t : TS} {l : List Nd} {σ : Int → Sl} (h : RepS t l σ) (hl : l.length ≤ 100000) {a : Int} (hua : U64 a) : blw t.M t.c a = bwL l a := by
 unfold blw
 rw [h.hdE hua]
 by_cases hz : hdT t.M.size l a = 0
 ·obtain ⟨l1, l2, g, rfl, ht, hf, ha, hld, hs, hok⟩ := h.at_ hua hz
  rw [if_neg (by simp [hz]), hld]
  have hd : (sN g (hdA l2 0) (lsA l1 0)).d = g.d := rfl
  have hx : (sN g (hdA l2 0) (lsA l1 0)).x = hdA l2 0 := rfl
  rw [hd, hx]
  have h' : RepS t ((l1 ++ [g]) ++ l2) σ := by simpa using h
  have hlen : l2.length ≤ (t.c + 1).toNat := by
   have := h.len_le
   simp only [List.length_append, List.length_cons] at this
   omega
  rw [RepS.bl h' hlen]
  unfold bwL
  rw [hf, ha, if_neg (by omega)]
  unfold bwT
  have : (l1 ++ g :: l2).drop ((l1.length:Int).toNat + 1) = l2 := by simp
  rw [this]
 ·rw [if_pos hz]
  unfold bwL
  rcases h.ld hua with ⟨_, m0, _, _, ⟨i, hi, ht, hf, hm, _⟩ | ⟨_, hf, _⟩⟩ | ⟨_, _, _, _, hf, _⟩
  ·have := hdT_mem h hm
   rw [ht] at this
   exact absurd this hz
  ·rw [hf, if_pos (by omega)]
  ·rw [hf, if_pos (by omega)]
theorem RepS.rem {t : TS} {l : List Nd} {σ : Int → Sl} (h : RepS t l σ) (hl : l.length ≤ 100000) {a : Int} (hua : U64 a) :
  rmE t a = hdT t.M.size l a ∧ (∃ τ, RepS (rmT t a) (rmL t.M.size l a) τ) ∧ (rmT t a).M.size = t.M.size := by
 have hb := h.below hl hua
 have e1 := h.hdE hua
 unfold rmE rmT rmL
 rw [e1, hb]
 refine ⟨rfl, ?_⟩
 by_cases hz : hdT t.M.size l a = 0
 ·obtain ⟨l1, l2, g, rfl, ht, hf, ha, hld, hs, hok⟩ := h.at_ hua hz
  have hb1 : (hdT t.M.size (l1 ++ g :: l2) a != 0) = false := by simp [hz]
  have hd0 := (h.ok g (by simp)).d0
  simp only [hb1, mrgM_f, cnd_f]
  rw [hld]
  have hpp : (sN g (hdA l2 0) (lsA l1 0)).p = lsA l1 0 := rfl
  have hxx : (sN g (hdA l2 0) (lsA l1 0)).x = hdA l2 0 := rfl
  rw [hpp, hxx]
  -- what is below
  have hbw : bwL (l1 ++ g :: l2) a = tA (l2.takeWhile (fun x => decide (x.d > g.d))) := by
   unfold bwL
   rw [hf, ha, if_neg (by omega)]
   unfold bwT
   have : (l1 ++ g :: l2).drop ((l1.length:Int).toNat + 1) = l2 := by simp
   rw [this]
   rfl
  obtain ⟨lb, l3, hlb, hsp, hdeep⟩ : ∃ lb l3, lb = l2.takeWhile (fun x => decide (x.d > g.d)) ∧ l2 = lb ++ l3 ∧ ∀ y, y ∈ lb → y.d > g.d := by
   refine ⟨_, l2.dropWhile (fun x => decide (x.d > g.d)), rfl, List.takeWhile_append_dropWhile.symm, fun y hy => ?_⟩
   have := mem_tw hy
   simpa using this
  rw [hbw, ← hlb]
  have hh : RepS t ((l1 ++ [g]) ++ lb ++ l3) σ := by rw [hsp] at h; simpa using h
  obtain ⟨τ, R, z⟩ := RepS.decs hh fun y hy => by have := hdeep y hy; omega
  have R' : RepS ⟨(tA lb).foldl tD t.M, t.f, t.c⟩ (l1 ++ g :: (lb.map dN ++ l3)) τ := by simpa using R
  obtain ⟨τ2, R2, z2'⟩ := RepS.del R' (by rw [hsp] at hl; simpa using hl)
  rw [hdA_dN, ← hsp, ht] at R2 z2'
  have hlen : (l1.length:Int).toNat = l1.length := by simp
  have hrm : rmG (fnd (l1 ++ g :: l2) a).toNat (tA lb).length 0 (l1 ++ g :: l2) = l1 ++ (lb.map dN ++ l3) := by
   rw [hf, hlen, rmG_A l1 0 (by omega), hsp]
   congr 1
   rw [rmG_B lb (l1.length + 1) (by omega) (by simp [tA]; omega)]
   congr 1
   apply List.map_congr_left
   intro y hy
   have h1 := hdeep y hy
   have h2 := (h.ok y (by rw [hsp]; simp [hy])).d1
   unfold dW dN
   rw [wi (by omega) (by omega)]
  rw [hrm]
  exact ⟨⟨τ2, R2⟩, z2'.trans z⟩
 ·have hb1 : (hdT t.M.size l a != 0) = true := by simp [hz]
  simp only [hb1, mrgM_t, cnd_t]
  exact ⟨⟨σ, h⟩, trivial⟩
structure Op where
 k : Int
 A : Int
 B : Int
 z : Sl
def Op.R (o : Op) : Prop := U64 o.A ∧ U64 o.B ∧ SlR o.z ∧ o.z.x = 0 ∧ o.z.p = 0 ∧ o.z.d = 0
def ndO (o : Op) (a:Int) : Nd := ⟨a, o.z.k, o.z.a, o.z.b, o.z.r, o.z.g, o.z.s, o.z.m, 0⟩
theorem ndO_sl {o : Op} (h : o.R) (a:Int) : slN (ndO o a) = o.z := by
 obtain ⟨_, _, _, h1, h2, h3⟩ := h
 obtain ⟨k, A, B, z⟩ := o
 cases z
 simp only at h1 h2 h3
 subst h1 h2 h3
 rfl
noncomputable def dnT (t : TS) (o : Op) : TS := if o.k = 1 then rtT t o.A o.z else if o.k = 2 then chT t o.A o.B o.z else if o.k = 3 then seT t o.A o.z else if o.k = 4 then mvT t o.A o.B else if o.k = 5 then swT t o.A o.B else if o.k = 6 then rmT t o.A else t
noncomputable def dnE (t : TS) (o : Op) : Int := if o.k = 1 then rtE t o.A o.z else if o.k = 2 then chE t o.A o.B o.z else if o.k = 3 then seE t o.A o.z else if o.k = 4 then mvE t o.A o.B else if o.k = 5 then swE t o.A o.B else if o.k = 6 then rmE t o.A else 0
def mdL (z:Int) (l : List Nd) (o : Op) : List Nd := if o.k = 1 then rtL z l (ndO o o.A) else if o.k = 2 then chL z l o.A (ndO o o.B) else if o.k = 3 then seL z l (ndO o o.A) else if o.k = 4 then mvL z l o.A o.B else if o.k = 5 then swL z l o.A o.B else if o.k = 6 then rmL z l o.A else l
def mdR (z:Int) (l : List Nd) (o : Op) : Int := if o.k = 1 then rtR z l (ndO o o.A) else if o.k = 2 then chR z l o.A (ndO o o.B) else if o.k = 3 then seR z l (ndO o o.A) else if o.k = 4 then mvR z l o.A o.B else if o.k = 5 then swR z l o.A o.B else if o.k = 6 then hdT z l o.A else 0
theorem RepS.step {t : TS} {l : List Nd} {σ : Int → Sl} (h : RepS t l σ) (hl : l.length ≤ 100000) {o : Op} (ho : o.R) :
  dnE t o = mdR t.M.size l o ∧ (∃ τ, RepS (dnT t o) (mdL t.M.size l o) τ) ∧ (dnT t o).M.size = t.M.size := by
 have hA := ho.1
 have hB := ho.2.1
 have hz := ho.2.2.1
 unfold dnE dnT mdR mdL
 by_cases k1 : o.k = 1
 ·simp only [if_pos k1]
  have := h.root (x := ndO o o.A) hA (by rw [ndO_sl ho]; exact hz) rfl hl
  rw [ndO_sl ho] at this
  exact this
 ·simp only [if_neg k1]
  by_cases k2 : o.k = 2
  ·simp only [if_pos k2]
   have := h.child (p := o.A) (x := ndO o o.B) hA hB (by rw [ndO_sl ho]; exact hz) hl
   rw [ndO_sl ho] at this
   exact this
  ·simp only [if_neg k2]
   by_cases k3 : o.k = 3
   ·simp only [if_pos k3]
    have := h.set (x := ndO o o.A) hA (by rw [ndO_sl ho]; exact hz)
    rw [ndO_sl ho] at this
    exact this
   ·simp only [if_neg k3]
    by_cases k4 : o.k = 4
    ·simp only [if_pos k4]
     exact h.move hA hB
    ·simp only [if_neg k4]
     by_cases k5 : o.k = 5
     ·simp only [if_pos k5]
      exact h.swap hA hB
     ·simp only [if_neg k5]
      by_cases k6 : o.k = 6
      ·simp only [if_pos k6]
       exact h.rem hl hA
      ·simp only [if_neg k6]
       exact ⟨trivial, ⟨σ, h⟩, trivial⟩
theorem mdL_len (z:Int) (l : List Nd) (o : Op) : (mdL z l o).length ≤ l.length + 1 := by
 unfold mdL
 split
 ·exact rtL_len _ _ _
 ·split
  ·unfold chL
   cases (hdT z l o.A != 0) <;> simp only [cnd_t, cnd_f]
   ·cases (ftT z l (ndO o o.B) != 0) <;> simp only [cnd_t, cnd_f]
    ·cases decide ((atN l o.A).d ≥ 4096) <;> simp only [cnd_t, cnd_f]
     ·exact Nat.le_of_eq (putN_len _ _ _)
     ·exact Nat.le_succ _
    ·exact Nat.le_succ _
   ·exact Nat.le_succ _
  ·split
   ·unfold seL
    cases (hdT z l (ndO o o.A).t != 0) <;> simp only [cnd_t, cnd_f]
    ·cases badC (ndO o o.A) <;> simp [cnd_t, cnd_f]
    ·exact Nat.le_succ _
   ·split
    ·unfold mvL
     cases (hdT z l o.A != 0) <;> simp only [cnd_t, cnd_f]
     ·cases (frT z l o.B != 0) <;> simp [cnd_t, cnd_f]
     ·exact Nat.le_succ _
    ·split
     ·unfold swL
      cases (hdT z l o.A != 0) <;> simp only [cnd_t, cnd_f]
      ·cases (hdT z l o.B != 0) <;> simp [cnd_t, cnd_f, swp_len]
      ·exact Nat.le_succ _
     ·split
      ·unfold rmL
       cases (hdT z l o.A != 0) <;> simp only [cnd_t, cnd_f]
       ·exact Nat.le_succ_of_le (rmG_len _ _ _ _)
       ·exact Nat.le_succ _
      ·exact Nat.le_succ _
theorem dnT_R {t : TS} (h : TR t) {o : Op} (ho : o.R) : TR (dnT t o) := by
 unfold dnT
 split
 ·exact rtT_R h ho.1 ho.2.2.1
 ·split
  ·exact chT_R h ho.1 ho.2.1 ho.2.2.1
  ·split
   ·exact seT_R h ho.2.2.1
   ·split
    ·exact mvT_R h ho.2.1
    ·split
     ·exact swT_R h ho.1 ho.2.1
     ·split
      ·exact rmT_R h
      ·exact h
set_option maxRecDepth 100000
def pre54 (v : V54) : Prop := TR (TS.mk v.M v.f v.c) ∧ v.c ≤ 100000 ∧ (Op.mk v.ok v.oa v.ob (Sl.mk v.kc v.ac v.bc v.rc v.gc v.sc v.mc 0 0 0)).R
theorem n54 (v : V54) (h : pre54 v) : (f54 v).ok ∧ (f54 v).get.1 = .int .i64 (dnE (TS.mk v.M v.f v.c) (Op.mk v.ok v.oa v.ob (Sl.mk v.kc v.ac v.bc v.rc v.gc v.sc v.mc 0 0 0))) ∧ HOws (f54 v).get.2.1 [HO.cells 175 [.ptr 1 0, .int .u64 ((dnT (TS.mk v.M v.f v.c) (Op.mk v.ok v.oa v.ob (Sl.mk v.kc v.ac v.bc v.rc v.gc v.sc v.mc 0 0 0))).f), .int .i64 ((dnT (TS.mk v.M v.f v.c) (Op.mk v.ok v.oa v.ob (Sl.mk v.kc v.ac v.bc v.rc v.gc v.sc v.mc 0 0 0))).c)], HO.res (dnT (TS.mk v.M v.f v.c) (Op.mk v.ok v.oa v.ob (Sl.mk v.kc v.ac v.bc v.rc v.gc v.sc v.mc 0 0 0))).M] := by
 obtain ⟨ht, hc, ha, hb, hz, _⟩ := h
 have E1 : f54_6 v = dnE ⟨v.M, v.f, v.c⟩ ⟨v.ok, v.oa, v.ob, ⟨v.kc, v.ac, v.bc, v.rc, v.gc, v.sc, v.mc, 0, 0, 0⟩⟩ := by
  unfold f54_6 dnE f54_10
  simp only [cndB, beq_iff_eq]
 have E2 : f54_7 v = (dnT ⟨v.M, v.f, v.c⟩ ⟨v.ok, v.oa, v.ob, ⟨v.kc, v.ac, v.bc, v.rc, v.gc, v.sc, v.mc, 0, 0, 0⟩⟩).f := by
  unfold f54_7 dnT f54_11 f54_12 f54_10
  simp only [cndB, beq_iff_eq]
  repeat' split
  all_goals rfl
 have E3 : f54_8 v = (dnT ⟨v.M, v.f, v.c⟩ ⟨v.ok, v.oa, v.ob, ⟨v.kc, v.ac, v.bc, v.rc, v.gc, v.sc, v.mc, 0, 0, 0⟩⟩).c := by
  unfold f54_8 dnT f54_11 f54_12 f54_10
  simp only [cndB, beq_iff_eq]
  repeat' split
  all_goals rfl
 have E4 : f54_9 v = (dnT ⟨v.M, v.f, v.c⟩ ⟨v.ok, v.oa, v.ob, ⟨v.kc, v.ac, v.bc, v.rc, v.gc, v.sc, v.mc, 0, 0, 0⟩⟩).M := by
  unfold f54_9 dnT f54_11 f54_12 f54_10
  by_cases k1 : v.ok = 1
  ·have hb : (v.ok == 1) = true := beq_iff_eq.2 k1
   rw [hb, if_pos k1]
   rfl
  ·rw [beq_eq_false_iff_ne.2 k1, if_neg k1]
   refine Eq.trans (mrgM_f _ _) ?_
   by_cases k2 : v.ok = 2
   ·have hb : (v.ok == 2) = true := beq_iff_eq.2 k2
    rw [hb, if_pos k2]
    rfl
   ·rw [beq_eq_false_iff_ne.2 k2, if_neg k2]
    refine Eq.trans (mrgM_f _ _) ?_
    by_cases k3 : v.ok = 3
    ·have hb : (v.ok == 3) = true := beq_iff_eq.2 k3
     rw [hb, if_pos k3]
     rfl
    ·rw [beq_eq_false_iff_ne.2 k3, if_neg k3]
     refine Eq.trans (mrgM_f _ _) ?_
     by_cases k4 : v.ok = 4
     ·have hb : (v.ok == 4) = true := beq_iff_eq.2 k4
      rw [hb, if_pos k4]
      rfl
     ·rw [beq_eq_false_iff_ne.2 k4, if_neg k4]
      refine Eq.trans (mrgM_f _ _) ?_
      by_cases k5 : v.ok = 5
      ·have hb : (v.ok == 5) = true := beq_iff_eq.2 k5
       rw [hb, if_pos k5]
       rfl
      ·rw [beq_eq_false_iff_ne.2 k5, if_neg k5]
       refine Eq.trans (mrgM_f _ _) ?_
       by_cases k6 : v.ok = 6
       ·have hb : (v.ok == 6) = true := beq_iff_eq.2 k6
        rw [hb, if_pos k6]
        rfl
       ·rw [beq_eq_false_iff_ne.2 k6, if_neg k6]
        refine Eq.trans (mrgM_f _ _) ?_
        rfl
 refine ⟨⟨fun _ => ⟨ha, hz, ht⟩, fun _ _ => ⟨⟨ha, hb⟩, hz, ht⟩, fun _ _ _ => ⟨ha, hz, ht⟩, fun _ _ _ _ => ⟨⟨ha, hb⟩, ht⟩, fun _ _ _ _ _ => ⟨⟨ha, hb⟩, ht⟩, fun _ _ _ _ _ _ => ⟨ha, ht, hc⟩, trivial⟩, ?_, ?_⟩
 ·simp only [f54, Tr.get, E1]
 ·simp only [f54, Tr.get, E2, E3, E4]
  exact .refl _
noncomputable def f54n (v : V54) : Tr (Fin th.R) := .need (pre54 v) (.leaf (.int .i64 (dnE (TS.mk v.M v.f v.c) (Op.mk v.ok v.oa v.ob (Sl.mk v.kc v.ac v.bc v.rc v.gc v.sc v.mc 0 0 0))), [.cells 175 [.ptr 1 0, .int .u64 ((dnT (TS.mk v.M v.f v.c) (Op.mk v.ok v.oa v.ob (Sl.mk v.kc v.ac v.bc v.rc v.gc v.sc v.mc 0 0 0))).f), .int .i64 ((dnT (TS.mk v.M v.f v.c) (Op.mk v.ok v.oa v.ob (Sl.mk v.kc v.ac v.bc v.rc v.gc v.sc v.mc 0 0 0))).c)], .res (dnT (TS.mk v.M v.f v.c) (Op.mk v.ok v.oa v.ob (Sl.mk v.kc v.ac v.bc v.rc v.gc v.sc v.mc 0 0 0))).M], [0, 1]))
theorem s54n : Sound Try.prog th 54 (fnC d54 ofV54 f54n) := fnC_refine s54 fun v h => by
 obtain ⟨hp, _⟩ := h
 obtain ⟨a, b, c⟩ := n54 v hp
 exact ⟨a, b.symm, (qdd54 v).symm, c, by show 2 ≤ 2; decide⟩
noncomputable def nice54n : List (Nat × CF th.R) := (54, lift (fnC d54 ofV54 f54n)) :: nice142n
theorem nok54n : NiceOk Try.prog th nice54n := ⟨lift_sound s54n, nok142n⟩
set_option maxRecDepth 100000
def pre64 (v : V64) : Prop := (v.Q = v.L ∧ v.L ≤ 100000)
theorem n64 (v : V64) (h : pre64 v) : (f64 v).ok ∧ (f64 v).get.1 = .tup [.agg [.int .u64 v.z, .slc 1 9 0 (mdL v.z (nds (ndf v.t v.k v.a v.b v.r v.g v.s v.m v.d) v.L) (Op.mk v.ok v.oa v.ob (Sl.mk v.kc v.ac v.bc v.rc v.gc v.sc v.mc 0 0 0))).length], .int .i64 (mdR v.z (nds (ndf v.t v.k v.a v.b v.r v.g v.s v.m v.d) v.L) (Op.mk v.ok v.oa v.ob (Sl.mk v.kc v.ac v.bc v.rc v.gc v.sc v.mc 0 0 0)))] ∧ HOws (f64 v).get.2.1 [HO.gone, rowN (mdL v.z (nds (ndf v.t v.k v.a v.b v.r v.g v.s v.m v.d) v.L) (Op.mk v.ok v.oa v.ob (Sl.mk v.kc v.ac v.bc v.rc v.gc v.sc v.mc 0 0 0)))] := by
 refine ⟨⟨fun _ => h, fun _ _ => h, fun _ _ _ => h, fun _ _ _ _ => h, fun _ _ _ _ _ => h, fun _ _ _ _ _ _ => h, ⟨fun _ => trivial, fun _ => ⟨fun _ => trivial, fun _ => ⟨fun _ => trivial, fun _ => ⟨fun _ => trivial, fun _ => ⟨fun _ => trivial, fun _ => ⟨fun _ => trivial, fun _ => trivial⟩⟩⟩⟩⟩⟩⟩, ?_, ?_⟩
 ·skip
  by_cases k1 : v.ok = 1
  ·have hb1 : f64_24 v = true := beq_iff_eq.2 k1
   simp only [f64, Tr.get, hb1, mdL, mdR, if_pos k1]
   rfl
  ·have hn1 : f64_24 v = false := beq_eq_false_iff_ne.2 k1
   by_cases k2 : v.ok = 2
   ·have hb2 : f64_37 v = true := beq_iff_eq.2 k2
    simp only [f64, Tr.get, hn1, hb2, mdL, mdR, if_neg k1, if_pos k2]
    rfl
   ·have hn2 : f64_37 v = false := beq_eq_false_iff_ne.2 k2
    by_cases k3 : v.ok = 3
    ·have hb3 : f64_50 v = true := beq_iff_eq.2 k3
     simp only [f64, Tr.get, hn1, hn2, hb3, mdL, mdR, if_neg k1, if_neg k2, if_pos k3]
     rfl
    ·have hn3 : f64_50 v = false := beq_eq_false_iff_ne.2 k3
     by_cases k4 : v.ok = 4
     ·have hb4 : f64_63 v = true := beq_iff_eq.2 k4
      simp only [f64, Tr.get, hn1, hn2, hn3, hb4, mdL, mdR, if_neg k1, if_neg k2, if_neg k3, if_pos k4]
      rfl
     ·have hn4 : f64_63 v = false := beq_eq_false_iff_ne.2 k4
      by_cases k5 : v.ok = 5
      ·have hb5 : f64_76 v = true := beq_iff_eq.2 k5
       simp only [f64, Tr.get, hn1, hn2, hn3, hn4, hb5, mdL, mdR, if_neg k1, if_neg k2, if_neg k3, if_neg k4, if_pos k5]
       rfl
      ·have hn5 : f64_76 v = false := beq_eq_false_iff_ne.2 k5
       by_cases k6 : v.ok = 6
       ·have hb6 : f64_89 v = true := beq_iff_eq.2 k6
        simp only [f64, Tr.get, hn1, hn2, hn3, hn4, hn5, hb6, mdL, mdR, if_neg k1, if_neg k2, if_neg k3, if_neg k4, if_neg k5, if_pos k6]
        rfl
       ·have hn6 : f64_89 v = false := beq_eq_false_iff_ne.2 k6
        simp only [f64, Tr.get, hn1, hn2, hn3, hn4, hn5, hn6, mdL, mdR, if_neg k1, if_neg k2, if_neg k3, if_neg k4, if_neg k5, if_neg k6, nds_len]
 ·skip
  by_cases k1 : v.ok = 1
  ·have hb1 : f64_24 v = true := beq_iff_eq.2 k1
   simp only [f64, Tr.get, hb1, mdL, if_pos k1]
   exact .cons (.inl rfl) (.cons (.inl rfl) .nil)
  ·have hn1 : f64_24 v = false := beq_eq_false_iff_ne.2 k1
   by_cases k2 : v.ok = 2
   ·have hb2 : f64_37 v = true := beq_iff_eq.2 k2
    simp only [f64, Tr.get, hn1, hb2, mdL, if_neg k1, if_pos k2]
    exact .cons (.inl rfl) (.cons (.inl rfl) .nil)
   ·have hn2 : f64_37 v = false := beq_eq_false_iff_ne.2 k2
    by_cases k3 : v.ok = 3
    ·have hb3 : f64_50 v = true := beq_iff_eq.2 k3
     simp only [f64, Tr.get, hn1, hn2, hb3, mdL, if_neg k1, if_neg k2, if_pos k3]
     exact .cons (.inl rfl) (.cons (.inl rfl) .nil)
    ·have hn3 : f64_50 v = false := beq_eq_false_iff_ne.2 k3
     by_cases k4 : v.ok = 4
     ·have hb4 : f64_63 v = true := beq_iff_eq.2 k4
      simp only [f64, Tr.get, hn1, hn2, hn3, hb4, mdL, if_neg k1, if_neg k2, if_neg k3, if_pos k4]
      exact .cons (.inl rfl) (.cons (.inl rfl) .nil)
     ·have hn4 : f64_63 v = false := beq_eq_false_iff_ne.2 k4
      by_cases k5 : v.ok = 5
      ·have hb5 : f64_76 v = true := beq_iff_eq.2 k5
       simp only [f64, Tr.get, hn1, hn2, hn3, hn4, hb5, mdL, if_neg k1, if_neg k2, if_neg k3, if_neg k4, if_pos k5]
       exact .cons (.inl rfl) (.cons (.inl rfl) .nil)
      ·have hn5 : f64_76 v = false := beq_eq_false_iff_ne.2 k5
       by_cases k6 : v.ok = 6
       ·have hb6 : f64_89 v = true := beq_iff_eq.2 k6
        simp only [f64, Tr.get, hn1, hn2, hn3, hn4, hn5, hb6, mdL, if_neg k1, if_neg k2, if_neg k3, if_neg k4, if_neg k5, if_pos k6]
        exact .cons (.inl rfl) (.cons (.inl rfl) .nil)
       ·have hn6 : f64_89 v = false := beq_eq_false_iff_ne.2 k6
        simp only [f64, Tr.get, hn1, hn2, hn3, hn4, hn5, hn6, mdL, if_neg k1, if_neg k2, if_neg k3, if_neg k4, if_neg k5, if_neg k6]
        exact .cons (.inl rfl) (.cons (rowA h.1) .nil)
noncomputable def f64n (v : V64) : Tr (Fin th.R) := .need (pre64 v) (.leaf (.tup [.agg [.int .u64 v.z, .slc 1 9 0 (mdL v.z (nds (ndf v.t v.k v.a v.b v.r v.g v.s v.m v.d) v.L) (Op.mk v.ok v.oa v.ob (Sl.mk v.kc v.ac v.bc v.rc v.gc v.sc v.mc 0 0 0))).length], .int .i64 (mdR v.z (nds (ndf v.t v.k v.a v.b v.r v.g v.s v.m v.d) v.L) (Op.mk v.ok v.oa v.ob (Sl.mk v.kc v.ac v.bc v.rc v.gc v.sc v.mc 0 0 0)))], [.gone, rowN (mdL v.z (nds (ndf v.t v.k v.a v.b v.r v.g v.s v.m v.d) v.L) (Op.mk v.ok v.oa v.ob (Sl.mk v.kc v.ac v.bc v.rc v.gc v.sc v.mc 0 0 0)))], [0]))
theorem s64n : Sound Try.prog th 64 (fnC d64 ofV64 f64n) := fnC_refine s64 fun v h => by
 obtain ⟨hp, _⟩ := h
 obtain ⟨a, b, c⟩ := n64 v hp
 exact ⟨a, b.symm, (qdd64 v).symm, c, by show 1 ≤ 2; decide⟩
noncomputable def nice64n : List (Nat × CF th.R) := (64, lift (fnC d64 ofV64 f64n)) :: nice54n
theorem nok64n : NiceOk Try.prog th nice64n := ⟨lift_sound s64n, nok54n⟩
set_option maxRecDepth 100000
structure V57 where
 x : Int
def A57 (v : V57) : List SV := [.int .u64 v.x]
def H57 (v : V57) : List (HO th.R) := []
def toV57 (v : V57) : List (Vl th.R) := [.i v.x]
def ofV57 : List (Vl th.R) → Option V57
 | [.i x] => some ⟨x⟩
 | _ => none
def d57 : Ft := ⟨[.int .u64], []⟩

noncomputable def ff57 (v : V57) : Tr (Fin th.R) := (Tr.leaf ((SV.agg [(SV.int .i64 (8:Int)), SV.int .u64 (v.x), (SV.int .i64 (7:Int)), (SV.int .i64 (0:Int)), (SV.int .i64 (0:Int)), (SV.int .i64 (0:Int)), (SV.int .u64 (0:Int))]), List.nil, List.nil))
noncomputable def f57 (v : V57) : Tr (Fin th.R) := (Tr.leaf ((SV.agg [(SV.int .i64 (8:Int)), SV.int .u64 (v.x), (SV.int .i64 (7:Int)), (SV.int .i64 (0:Int)), (SV.int .i64 (0:Int)), (SV.int .i64 (0:Int)), (SV.int .u64 (0:Int))]), List.nil, []))
noncomputable def C57 : CF th.R := fnC d57 ofV57 (f57 )
theorem q57 (v : V57) : (evFn th Try.prog (auto th Try.prog nice64n [] 20) (autoH [] [] [] [] : Hints th) 57) (A57 v) (H57 v) = some (ff57 v) := by kernel_rfl
theorem qg57 (v : V57) : ((ff57 v).map (setD [])).get = (f57 v).get := by kernel_rfl
theorem qd57 (v : V57) : allD 0 [] (ff57 v) = true := by kernel_rfl
theorem s57 : Sound Try.prog th 57 (C57 ) := fnC_sound (evFn_sound' (T := th) (P := Try.prog) (tbl := (auto th Try.prog nice64n [] 20)) (auto_sound (nice := nice64n) (us := []) nok64n 20) (H := (autoH [] [] [] [] : Hints th)) (k := 57) (fnLoops (LoopsOk_mem (fun _ => rfl) _ fun _ _ _ e => by cases e))) d57 A57 H57 toV57 (by kernel_rfl) (fun v => by kernel_rfl)
 (fun l v h => by
  unfold ofV57 at h
  split at h
  ·cases h; rfl
  ·cases h)
 [] (fun v => ⟨ff57 v, q57 v, id, qg57 v, qd57 v⟩)
noncomputable def nice57 : List (Nat × CF th.R) := (57, lift C57) :: nice64n
theorem nok57 : NiceOk Try.prog th nice57 := ⟨lift_sound s57, nok64n⟩
set_option maxRecDepth 100000
structure V53 where
def A53 (v : V53) : List SV := []
def H53 (v : V53) : List (HO th.R) := []
def toV53 (v : V53) : List (Vl th.R) := []
def ofV53 : List (Vl th.R) → Option V53
 | [] => some ⟨⟩
 | _ => none
def d53 : Ft := ⟨[], []⟩
noncomputable def f53_0 (v : V53) : (Mem) := newM (65536:Int)
noncomputable def ff53 (v : V53) : Tr (Fin th.R) := (Tr.ite (false) (Tr.leaf ((SV.tup [SV.nilp, SV.nilp, (SV.agg [(SV.int .u64 (65536:Int)), SV.nils])]), List.nil, List.nil)) (Tr.leaf ((SV.tup [(SV.ptr (3) (0:Nat)), (SV.ptr (1) (0:Nat)), (SV.agg [(SV.int .u64 (65536:Int)), SV.nils])]), [(HO.cells (55:Nat) [(SV.int .u64 (65536:Int)), SV.nils]), HO.res (f53_0 v), (HO.cells (55:Nat) [(SV.int .u64 (65536:Int)), SV.nils]), (HO.cells (175:Nat) [(SV.ptr (1) (0:Nat)), (SV.int .u64 (0:Int)), (SV.int .i64 (0:Int))])], [0, 2])))
noncomputable def f53 (v : V53) : Tr (Fin th.R) := (Tr.ite (false) (Tr.leaf ((SV.tup [SV.nilp, SV.nilp, (SV.agg [(SV.int .u64 (65536:Int)), SV.nils])]), List.nil, [])) (Tr.leaf ((SV.tup [(SV.ptr (3) (0:Nat)), (SV.ptr (1) (0:Nat)), (SV.agg [(SV.int .u64 (65536:Int)), SV.nils])]), [(HO.cells (55:Nat) [(SV.int .u64 (65536:Int)), SV.nils]), HO.res (f53_0 v), (HO.cells (55:Nat) [(SV.int .u64 (65536:Int)), SV.nils]), (HO.cells (175:Nat) [(SV.ptr (1) (0:Nat)), (SV.int .u64 (0:Int)), (SV.int .i64 (0:Int))])], [])))
noncomputable def C53 : CF th.R := fnC d53 ofV53 (f53 )
theorem q53 (v : V53) : (evFn th Try.prog (auto th Try.prog nice57 [] 20) (autoH [] [] [] [] : Hints th) 53) (A53 v) (H53 v) = some (ff53 v) := by kernel_rfl
theorem qg53 (v : V53) : ((ff53 v).map (setD [])).get = (f53 v).get := by kernel_rfl
theorem qd53 (v : V53) : allD 0 [] (ff53 v) = true := by kernel_rfl
theorem s53 : Sound Try.prog th 53 (C53 ) := fnC_sound (evFn_sound' (T := th) (P := Try.prog) (tbl := (auto th Try.prog nice57 [] 20)) (auto_sound (nice := nice57) (us := []) nok57 20) (H := (autoH [] [] [] [] : Hints th)) (k := 53) (fnLoops (LoopsOk_mem (fun _ => rfl) _ fun _ _ _ e => by cases e))) d53 A53 H53 toV53 (by kernel_rfl) (fun v => by kernel_rfl)
 (fun l v h => by
  unfold ofV53 at h
  split at h
  ·cases h; rfl
  ·cases h)
 [] (fun v => ⟨ff53 v, q53 v, id, qg53 v, qd53 v⟩)
theorem qdd53 (v : V53) : (f53 v).get.2.2 = [] := by
 rw [← qg53, Tr.map_get]; rfl
set_option maxRecDepth 100000
def pre53 (v : V53) : Prop := True
theorem n53 (v : V53) (h : pre53 v) : (f53 v).ok ∧ (f53 v).get.1 = .tup [.ptr 3 0, .ptr 1 0, .agg [.int .u64 65536, .nils]] ∧ HOws (f53 v).get.2.1 [HO.gone, HO.res op0.1.M, HO.gone, HO.cells 175 [.ptr 1 0, .int .u64 0, .int .i64 0]] := by
 refine ⟨⟨(fun e => by cases e), fun _ => trivial⟩, rfl, ?_⟩
 exact .cons (.inr (.inl rfl)) (.cons (.inl rfl) (.cons (.inr (.inl rfl)) (.cons (.inl rfl) .nil)))
noncomputable def f53n (v : V53) : Tr (Fin th.R) := .need (pre53 v) (.leaf (.tup [.ptr 3 0, .ptr 1 0, .agg [.int .u64 65536, .nils]], [.gone, .res op0.1.M, .gone, .cells 175 [.ptr 1 0, .int .u64 0, .int .i64 0]], []))
theorem s53n : Sound Try.prog th 53 (fnC d53 ofV53 f53n) := fnC_refine s53 fun v h => by
 obtain ⟨hp, _⟩ := h
 obtain ⟨a, b, c⟩ := n53 v hp
 exact ⟨a, b.symm, (qdd53 v).symm, c, by show 0 ≤ 4; decide⟩
noncomputable def nice53n : List (Nat × CF th.R) := (53, lift (fnC d53 ofV53 f53n)) :: nice57
theorem nok53n : NiceOk Try.prog th nice53n := ⟨lift_sound s53n, nok57⟩
end Go.Sx.M

