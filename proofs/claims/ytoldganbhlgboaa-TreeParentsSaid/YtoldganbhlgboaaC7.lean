/- Contracts of the functions of this seat, each by the executor and the kernel; part 7. Their conditions stand in each. -/
import Derived.Test.YtoldganbhlgboaaC6
set_option linter.unusedVariables false
set_option linter.unusedSimpArgs false
set_option linter.unnecessarySimpa false
namespace Go.Sx.M
open Go Go.Sx Go.Proofs Go.RowKit
set_option maxRecDepth 100000
structure V80 where
 at_ : Int
 f : Int
 c : Int
 M : th.R
def A80 (v : V80) : List SV := [.ptr 0 0, .int .u64 v.at_]
def H80 (v : V80) : List (HO th.R) := [.cells 175 [.ptr 1 0, .int .u64 v.f, .int .i64 v.c], .res v.M]
def toV80 (v : V80) : List (Vl th.R) := [.i v.at_, .i v.f, .i v.c, .r v.M]
def ofV80 : List (Vl th.R) → Option V80
 | [.i at_, .i f, .i c, .r M] => some ⟨at_, f, c, M⟩
 | _ => none
def d80 : Ft := ⟨[.ptr 0 0, .int .u64], [.cells 175 [.ptr 1 0, .int .u64, .int .i64], .res]⟩
structure P80_1 where
 x1 : Int
 n5 : Nat
 x6 : Int
 n24 : Nat
 x25 : Int
 x26 : Int
 n41 : Nat
 x42 : Int
 xh0_1 : Int
 xh0_2 : Int
 R1 : th.R
 N2 : Nat
 F2_0 : Nat → Int
 N3 : Nat
 F3_0 : Nat → Int
structure S80_1 where
 b9 : Bool
 x43 : Int
noncomputable instance : Inhabited S80_1 := ⟨⟨false, 0⟩⟩
def I80_1 (p : P80_1) (s : S80_1) : St th.R := ⟨[some (.ptr 0 0), some (.int .u64 p.x1), none, none, none, some (.slc 2 1 0 p.n5), some (.int .i64 p.x6), none, none, some (.bool s.b9), none, none, none, none, none, none, none, none, none, none, none, none, none, none, some (.slc 2 1 0 p.n24), some (.int .i64 p.x25), some (.int .i64 p.x26), none, none, none, none, none, none, none, none, none, none, none, none, none, none, some (.slc 3 1 0 p.n41), some (.int .i64 p.x42), some (.int .i64 s.x43), none, none, none, none, none, none, none, none, none, none, none, none, none, none, none, none, none, none, none, none, none, none, none, none, none, none, none, none, none, none, none, none, none, none], [.cells 175 [.ptr 1 0, .int .u64 p.xh0_1, .int .i64 p.xh0_2], .res p.R1, .row 22 1 p.N2 (fun j => [.int .u64 (p.F2_0 j)]), .row 22 1 p.N3 (fun j => [.int .u64 (p.F3_0 j)])], [], []⟩
def d80_1 : Lp := ⟨⟨78, [(0, .ptr 0 0), (1, .int .u64), (5, .slc0 2 1), (6, .int .i64), (9, .bool), (24, .slc0 2 1), (25, .int .i64), (26, .int .i64), (41, .slc0 3 1), (42, .int .i64), (43, .int .i64)], [.cells 175 [.ptr 1 0, .int .u64, .int .i64], .res, .rowc 22 [.int .u64], .rowc 22 [.int .u64]]⟩, [], 4, [], [0, 1, 5, 6, 9, 24, 25, 26, 49, 50, 51, 68, 69, 70, 71, 72, 73, 74, 75, 76], []⟩
def toV80_1 (p : P80_1) (s : S80_1) : List (Vl th.R) := [.i p.x1, .n p.n5, .i p.x6, .b s.b9, .n p.n24, .i p.x25, .i p.x26, .n p.n41, .i p.x42, .i s.x43, .i p.xh0_1, .i p.xh0_2, .r p.R1, .n p.N2, .c p.F2_0, .n p.N3, .c p.F3_0]
def ofV80_1 : List (Vl th.R) → Option (P80_1 × S80_1)
 | [.i x1, .n n5, .i x6, .b b9, .n n24, .i x25, .i x26, .n n41, .i x42, .i x43, .i xh0_1, .i xh0_2, .r R1, .n N2, .c F2_0, .n N3, .c F3_0] => some (⟨x1, n5, x6, n24, x25, x26, n41, x42, xh0_1, xh0_2, R1, N2, F2_0, N3, F3_0⟩, ⟨b9, x43⟩)
 | _ => none
noncomputable def e80_1_7 (p : P80_1) (s : S80_1) : (Nat) := (0:Nat) + s.x43.toNat
noncomputable def e80_1_0 (p : P80_1) (s : S80_1) : (Bool) := cnd (decide (s.x43 < p.x42)) false true
noncomputable def e80_1_1 (p : P80_1) (s : S80_1) : (Prop) := (∀ (i:Nat), scpL (0:Nat) ((fun (j:Nat) => [SV.int IntKind.u64 (p.F2_0 j)]) i) = true) ∧ ∀ (i:Nat), scpL (0:Nat) ((fun (j:Nat) => [SV.int IntKind.u64 (p.F3_0 j)]) i) = true
noncomputable def e80_1_2 (p : P80_1) (s : S80_1) : (Prop) := (0:Int) ≤ s.x43 ∧ s.x43 < (↑p.n41:Int)
noncomputable def e80_1_3 (p : P80_1) (s : S80_1) : (Prop) := e80_1_7 p s < p.N3
noncomputable def e80_1_4 (p : P80_1) (s : S80_1) : (Prop) := ((∀ (i:Nat), scpL (0:Nat) ((fun (j:Nat) => [SV.int IntKind.u64 (p.F2_0 j)]) i) = true) ∧ ∀ (i:Nat), scpL (0:Nat) ((fun (j:Nat) => [SV.int IntKind.u64 (p.F3_0 j)]) i) = true) ∧ (∀ (i:Nat), i < p.N2 → (fun (j:Nat) => [SV.int IntKind.u64 (p.F2_0 j)]) i = elC (fun (j:Nat) => [SV.int IntKind.u64 (p.F2_0 j)]) (0:Nat) [Ck.int IntKind.u64] i) ∧ ∀ (i:Nat), i < p.N3 → (fun (j:Nat) => [SV.int IntKind.u64 (p.F3_0 j)]) i = elC (fun (j:Nat) => [SV.int IntKind.u64 (p.F3_0 j)]) (0:Nat) [Ck.int IntKind.u64] i
noncomputable def e80_1_5 (p : P80_1) (s : S80_1) : (Bool) := cnd s.b9 true (p.F3_0 (e80_1_7 p s) == p.x1)
noncomputable def e80_1_6 (p : P80_1) (s : S80_1) : (Int) := IntKind.i64.wrap (s.x43 + (1:Int))
theorem n_e80_1_1 (p : P80_1) (s : S80_1) : e80_1_1 p s := by
 unfold e80_1_1
 (repeat' first | intro _ | apply And.intro) <;> first | rfl | exact absurd (by assumption) (Nat.not_lt_zero _) | exact scpL_rowSet (by rfl) (by rfl) | exact scpL_rowEl (by kernel_rfl) _ | omega | decide
theorem n_e80_1_4 (p : P80_1) (s : S80_1) : e80_1_4 p s := by
 unfold e80_1_4
 (repeat' first | intro _ | apply And.intro) <;> first | rfl | exact absurd (by assumption) (Nat.not_lt_zero _) | exact scpL_rowSet (by rfl) (by rfl) | exact scpL_rowEl (by kernel_rfl) _ | omega | decide
noncomputable def rf80_1 (p : P80_1) (s : S80_1) : Tr (Rs th.R S80_1) := (Tr.ite (e80_1_0 p s) (Tr.need (e80_1_1 p s) (Tr.leaf (Rs.out (Ex.exit (2:Nat)) [(some (SV.ptr (0:Nat) (0:Nat))), some (SV.int .u64 (p.x1)), none, none, none, (some (SV.slc (2:Nat) (1:Nat) (0:Nat) (p.n5))), some (SV.int .i64 (p.x6)), none, none, some (SV.bool (s.b9)), none, none, none, none, none, none, none, none, none, none, none, none, none, none, (some (SV.slc (2:Nat) (1:Nat) (0:Nat) (p.n24))), some (SV.int .i64 (p.x25)), some (SV.int .i64 (p.x26)), none, none, none, none, none, none, none, none, none, none, none, none, none, none, none, none, none, none, none, none, none, none, none, none, none, none, none, none, none, none, none, none, none, none, none, none, none, none, none, none, none, none, none, none, none, none, none, none, none, none, none] [(HO.cells (175:Nat) [(SV.ptr (1:Nat) (0:Nat)), SV.int .u64 (p.xh0_1), SV.int .i64 (p.xh0_2)]), HO.res (p.R1), (HO.row (22:Nat) (1:Nat) (p.N2) (fun j => [SV.int .u64 (p.F2_0 j)])), (HO.row (22:Nat) (1:Nat) (p.N3) (fun j => [SV.int .u64 (p.F3_0 j)]))]))) (Tr.need (e80_1_2 p s) (Tr.need (e80_1_3 p s) (Tr.need (e80_1_4 p s) (Tr.leaf (Rs.on (S80_1.mk ((e80_1_5 p s)) ((e80_1_6 p s)))))))))
noncomputable def r80_1 (p : P80_1) (s : S80_1) : Tr (Rs th.R S80_1) := (Tr.ite (e80_1_0 p s) (Tr.leaf (Rs.out (Ex.exit (2:Nat)) [(some (SV.ptr (0:Nat) (0:Nat))), some (SV.int .u64 (p.x1)), none, none, none, (some (SV.slc (2:Nat) (1:Nat) (0:Nat) (p.n5))), some (SV.int .i64 (p.x6)), none, none, some (SV.bool (s.b9)), none, none, none, none, none, none, none, none, none, none, none, none, none, none, (some (SV.slc (2:Nat) (1:Nat) (0:Nat) (p.n24))), some (SV.int .i64 (p.x25)), some (SV.int .i64 (p.x26)), none, none, none, none, none, none, none, none, none, none, none, none, none, none, none, none, none, none, none, none, none, none, none, none, none, none, none, none, none, none, none, none, none, none, none, none, none, none, none, none, none, none, none, none, none, none, none, none, none, none, none] [(HO.cells (175:Nat) [(SV.ptr (1:Nat) (0:Nat)), SV.int .u64 (p.xh0_1), SV.int .i64 (p.xh0_2)]), HO.res (p.R1), (HO.row (22:Nat) (1:Nat) (p.N2) (fun j => [SV.int .u64 (p.F2_0 j)])), (HO.row (22:Nat) (1:Nat) (p.N3) (fun j => [SV.int .u64 (p.F3_0 j)]))])) (Tr.need (e80_1_2 p s) (Tr.need (e80_1_3 p s) (Tr.leaf (Rs.on (S80_1.mk ((e80_1_5 p s)) ((e80_1_6 p s))))))))
noncomputable def E80_1 : St th.R → Out th := evCode th Try.prog (auto th Try.prog nice82n [] 20) (autoH [] [] [] [] : Hints th) (lpAt Try.prog 80 1)
theorem B80_1 : CodeSound th Try.prog (lpAt Try.prog 80 1) E80_1 := evCode_sound (T := th) (P := Try.prog) (tbl := (auto th Try.prog nice82n [] 20)) (auto_sound (nice := nice82n) (us := []) nok82n 20) (autoH [] [] [] [] : Hints th) _ (LoopsOk_mem (fun _ => rfl) _ fun b hb L hL => by cases hL)
noncomputable def L80_1 : St th.R → Out th := loopL d80_1 ofV80_1 r80_1
theorem h1_80_1 (p : P80_1) (s : S80_1) : bld d80_1.tm (toV80_1 p s) = some (I80_1 p s) := by kernel_rfl
theorem h2_80_1 (l : List (Vl th.R)) (p : P80_1) (s : S80_1) (h : ofV80_1 l = some (p, s)) : l = toV80_1 p s := by
 unfold ofV80_1 at h
 split at h
 ·cases h; rfl
 ·cases h
theorem h3_80_1 (p : P80_1) (s : S80_1) : cvE d80_1 (E80_1 (I80_1 p s)) = some ((rf80_1 p s).map (Rs.map (toV80_1 p))) := by kernel_rfl
theorem h3g_80_1 (p : P80_1) (s : S80_1) : (rf80_1 p s).get = (r80_1 p s).get := by kernel_rfl
theorem h4_80_1 (p : P80_1) (s s1 : S80_1) : outH d80_1.dirt d80_1.n0 (r80_1 p s) = repH (maskH d80_1.dirt 0 d80_1.n0 (I80_1 p s1).heap) (r80_1 p s) := by kernel_rfl
theorem ls80_1 : CodeSound th Try.prog (.loop (lpAt Try.prog 80 1)) L80_1 := loopL_sound B80_1 d80_1 I80_1 toV80_1 (by kernel_rfl) h1_80_1 h2_80_1
 (fun p s => ⟨(rf80_1 p s).map (Rs.map (toV80_1 p)), h3_80_1 p s, fun h => by
  rw [Tr.map_ok]
  unfold r80_1 at h; unfold rf80_1
  simp only [Tr.ok, n_e80_1_1, n_e80_1_4, true_and, and_true, forall_const, implies_true] at h ⊢
  try exact h, by rw [Tr.map_get, h3g_80_1 p s]⟩) h4_80_1
structure P80_0 where
 x1 : Int
 n5 : Nat
 x6 : Int
 n24 : Nat
 x25 : Int
 xh0_1 : Int
 xh0_2 : Int
 R1 : th.R
 N2 : Nat
 F2_0 : Nat → Int
structure S80_0 where
 x26 : Int
noncomputable instance : Inhabited S80_0 := ⟨⟨0⟩⟩
def I80_0 (p : P80_0) (s : S80_0) : St th.R := ⟨[some (.ptr 0 0), some (.int .u64 p.x1), none, none, none, some (.slc 2 1 0 p.n5), some (.int .i64 p.x6), none, none, none, none, none, none, none, none, none, none, none, none, none, none, none, none, none, some (.slc 2 1 0 p.n24), some (.int .i64 p.x25), some (.int .i64 s.x26), none, none, none, none, none, none, none, none, none, none, none, none, none, none, none, none, none, none, none, none, none, none, none, none, none, none, none, none, none, none, none, none, none, none, none, none, none, none, none, none, none, none, none, none, none, none, none, none, none, none, none], [.cells 175 [.ptr 1 0, .int .u64 p.xh0_1, .int .i64 p.xh0_2], .res p.R1, .row 22 1 p.N2 (fun j => [.int .u64 (p.F2_0 j)])], [], []⟩
def d80_0 : Lp := ⟨⟨78, [(0, .ptr 0 0), (1, .int .u64), (5, .slc0 2 1), (6, .int .i64), (24, .slc0 2 1), (25, .int .i64), (26, .int .i64)], [.cells 175 [.ptr 1 0, .int .u64, .int .i64], .res, .rowc 22 [.int .u64]]⟩, [], 3, [], [0, 1, 4, 5, 6, 68, 69, 70, 71, 72, 73, 74, 75, 76], []⟩
def toV80_0 (p : P80_0) (s : S80_0) : List (Vl th.R) := [.i p.x1, .n p.n5, .i p.x6, .n p.n24, .i p.x25, .i s.x26, .i p.xh0_1, .i p.xh0_2, .r p.R1, .n p.N2, .c p.F2_0]
def ofV80_0 : List (Vl th.R) → Option (P80_0 × S80_0)
 | [.i x1, .n n5, .i x6, .n n24, .i x25, .i x26, .i xh0_1, .i xh0_2, .r R1, .n N2, .c F2_0] => some (⟨x1, n5, x6, n24, x25, xh0_1, xh0_2, R1, N2, F2_0⟩, ⟨x26⟩)
 | _ => none
noncomputable def e80_0_13 (p : P80_0) (s : S80_0) : (Nat) := (0:Nat) + s.x26.toNat
noncomputable def e80_0_14 (p : P80_0) (s : S80_0) : (Int) := p.F2_0 (e80_0_13 p s)
noncomputable def e80_0_15 (p : P80_0) (s : S80_0) : (Nat) := (blw p.R1 p.xh0_2 (e80_0_14 p s)).length
noncomputable def e80_0_0 (p : P80_0) (s : S80_0) : (Bool) := cnd (decide (s.x26 < p.x25)) false true
noncomputable def e80_0_1 (p : P80_0) (s : S80_0) : (Prop) := ∀ (i:Nat), scpL (0:Nat) ((fun (j:Nat) => [SV.int IntKind.u64 (p.F2_0 j)]) i) = true
noncomputable def e80_0_2 (p : P80_0) (s : S80_0) : (Prop) := (0:Int) ≤ s.x26 ∧ s.x26 < (↑p.n24:Int)
noncomputable def e80_0_3 (p : P80_0) (s : S80_0) : (Prop) := e80_0_13 p s < p.N2
noncomputable def e80_0_4 (p : P80_0) (s : S80_0) : (Prop) := pre59 (V59.mk (e80_0_14 p s) p.xh0_1 p.xh0_2 p.R1)
noncomputable def e80_0_5 (p : P80_0) (s : S80_0) : (Bool) := dpE p.R1 (e80_0_14 p s) != IntKind.i64.wrap (IntKind.i64.wrap (p.x6 - (1:Int)) - s.x26)
noncomputable def e80_0_6 (p : P80_0) (s : S80_0) : (Prop) := pre58 (V58.mk (e80_0_14 p s) p.xh0_1 p.xh0_2 p.R1)
noncomputable def e80_0_7 (p : P80_0) (s : S80_0) : (Prop) := ∀ (i:Nat), scpL (0:Nat) ((fun (j:Nat) => [SV.int IntKind.u64 ((blw p.R1 p.xh0_2 (e80_0_14 p s)).getD j (0:Int))]) i) = true
noncomputable def e80_0_8 (p : P80_0) (s : S80_0) : (Prop) := (∀ (i:Nat), i < p.N2 → (fun (j:Nat) => [SV.int IntKind.u64 (p.F2_0 j)]) i = elC (fun (j:Nat) => [SV.int IntKind.u64 (p.F2_0 j)]) (0:Nat) [Ck.int IntKind.u64] i) ∧ ∀ (i:Nat), i < e80_0_15 p s → (fun (j:Nat) => [SV.int IntKind.u64 ((blw p.R1 p.xh0_2 (e80_0_14 p s)).getD j (0:Int))]) i = elC (fun (j:Nat) => [SV.int IntKind.u64 ((blw p.R1 p.xh0_2 (e80_0_14 p s)).getD j (0:Int))]) (0:Nat) [Ck.int IntKind.u64] i
noncomputable def e80_0_9 (p : P80_0) (s : S80_0) : (Prop) := LT (r80_1 (P80_1.mk p.x1 p.n5 p.x6 p.n24 p.x25 s.x26 (e80_0_15 p s) (↑(e80_0_15 p s):Int) p.xh0_1 p.xh0_2 p.R1 p.N2 p.F2_0 (e80_0_15 p s) fun (j:Nat) => (blw p.R1 p.xh0_2 (e80_0_14 p s)).getD j (0:Int))) (S80_1.mk false (0:Int))
noncomputable def e80_0_10 (p : P80_0) (s : S80_0) : (Bool) := !(lastS (r80_1 (P80_1.mk p.x1 p.n5 p.x6 p.n24 p.x25 s.x26 (e80_0_15 p s) (↑(e80_0_15 p s):Int) p.xh0_1 p.xh0_2 p.R1 p.N2 p.F2_0 (e80_0_15 p s) fun (j:Nat) => (blw p.R1 p.xh0_2 (e80_0_14 p s)).getD j (0:Int))) (S80_1.mk false (0:Int))).b9
noncomputable def e80_0_11 (p : P80_0) (s : S80_0) : (Prop) := (∀ (i:Nat), scpL (0:Nat) ((fun (j:Nat) => [SV.int IntKind.u64 (p.F2_0 j)]) i) = true) ∧ ∀ (i:Nat), i < p.N2 → (fun (j:Nat) => [SV.int IntKind.u64 (p.F2_0 j)]) i = elC (fun (j:Nat) => [SV.int IntKind.u64 (p.F2_0 j)]) (0:Nat) [Ck.int IntKind.u64] i
noncomputable def e80_0_12 (p : P80_0) (s : S80_0) : (Int) := IntKind.i64.wrap (s.x26 + (1:Int))
theorem n_e80_0_1 (p : P80_0) (s : S80_0) : e80_0_1 p s := by
 unfold e80_0_1
 (repeat' first | intro _ | apply And.intro) <;> first | rfl | exact absurd (by assumption) (Nat.not_lt_zero _) | exact scpL_rowSet (by rfl) (by rfl) | exact scpL_rowEl (by kernel_rfl) _ | omega | decide
theorem n_e80_0_7 (p : P80_0) (s : S80_0) : e80_0_7 p s := by
 unfold e80_0_7
 (repeat' first | intro _ | apply And.intro) <;> first | rfl | exact absurd (by assumption) (Nat.not_lt_zero _) | exact scpL_rowSet (by rfl) (by rfl) | exact scpL_rowEl (by kernel_rfl) _ | omega | decide
theorem n_e80_0_8 (p : P80_0) (s : S80_0) : e80_0_8 p s := by
 unfold e80_0_8
 (repeat' first | intro _ | apply And.intro) <;> first | rfl | exact absurd (by assumption) (Nat.not_lt_zero _) | exact scpL_rowSet (by rfl) (by rfl) | exact scpL_rowEl (by kernel_rfl) _ | omega | decide
theorem n_e80_0_11 (p : P80_0) (s : S80_0) : e80_0_11 p s := by
 unfold e80_0_11
 (repeat' first | intro _ | apply And.intro) <;> first | rfl | exact absurd (by assumption) (Nat.not_lt_zero _) | exact scpL_rowSet (by rfl) (by rfl) | exact scpL_rowEl (by kernel_rfl) _ | omega | decide
noncomputable def rf80_0 (p : P80_0) (s : S80_0) : Tr (Rs th.R S80_0) := (Tr.ite (e80_0_0 p s) (Tr.need (e80_0_1 p s) (Tr.leaf (Rs.out (Ex.exit (0:Nat)) [(some (SV.ptr (0:Nat) (0:Nat))), some (SV.int .u64 (p.x1)), none, none, none, (some (SV.slc (2:Nat) (1:Nat) (0:Nat) (p.n5))), some (SV.int .i64 (p.x6)), none, none, none, none, none, none, none, none, none, none, none, none, none, none, none, none, none, none, none, none, none, none, none, none, none, none, none, none, none, none, none, none, none, none, none, none, none, none, none, none, none, none, none, none, none, none, none, none, none, none, none, none, none, none, none, none, none, none, none, none, none, none, none, none, none, none, none, none, none, none, none] [(HO.cells (175:Nat) [(SV.ptr (1:Nat) (0:Nat)), SV.int .u64 (p.xh0_1), SV.int .i64 (p.xh0_2)]), HO.res (p.R1), (HO.row (22:Nat) (1:Nat) (p.N2) (fun j => [SV.int .u64 (p.F2_0 j)]))]))) (Tr.need (e80_0_2 p s) (Tr.need (e80_0_3 p s) (Tr.need (e80_0_4 p s) (Tr.ite (e80_0_5 p s) (Tr.need (e80_0_1 p s) (Tr.leaf (Rs.out (Ex.ret) [(some (SV.ptr (0:Nat) (0:Nat))), some (SV.int .u64 (p.x1)), none, none, some (SV.bool (false)), (some (SV.slc (2:Nat) (1:Nat) (0:Nat) (p.n5))), some (SV.int .i64 (p.x6)), none, none, none, none, none, none, none, none, none, none, none, none, none, none, none, none, none, none, none, none, none, none, none, none, none, none, none, none, none, none, none, none, none, none, none, none, none, none, none, none, none, none, none, none, none, none, none, none, none, none, none, none, none, none, none, none, none, none, none, none, none, none, none, none, none, none, none, none, none, none, none] [(HO.cells (175:Nat) [(SV.ptr (1:Nat) (0:Nat)), SV.int .u64 (p.xh0_1), SV.int .i64 (p.xh0_2)]), HO.res (p.R1), (HO.row (22:Nat) (1:Nat) (p.N2) (fun j => [SV.int .u64 (p.F2_0 j)]))]))) (Tr.need (e80_0_6 p s) (Tr.need (e80_0_7 p s) (Tr.need (e80_0_8 p s) (Tr.need (e80_0_9 p s) (Tr.ite (e80_0_10 p s) (Tr.need (e80_0_1 p s) (Tr.leaf (Rs.out (Ex.ret) [(some (SV.ptr (0:Nat) (0:Nat))), some (SV.int .u64 (p.x1)), none, none, some (SV.bool (false)), (some (SV.slc (2:Nat) (1:Nat) (0:Nat) (p.n5))), some (SV.int .i64 (p.x6)), none, none, none, none, none, none, none, none, none, none, none, none, none, none, none, none, none, none, none, none, none, none, none, none, none, none, none, none, none, none, none, none, none, none, none, none, none, none, none, none, none, none, none, none, none, none, none, none, none, none, none, none, none, none, none, none, none, none, none, none, none, none, none, none, none, none, none, none, none, none, none] [(HO.cells (175:Nat) [(SV.ptr (1:Nat) (0:Nat)), SV.int .u64 (p.xh0_1), SV.int .i64 (p.xh0_2)]), HO.res (p.R1), (HO.row (22:Nat) (1:Nat) (p.N2) (fun j => [SV.int .u64 (p.F2_0 j)]))]))) (Tr.need (e80_0_11 p s) (Tr.leaf (Rs.on (S80_0.mk ((e80_0_12 p s))))))))))))))))
noncomputable def r80_0 (p : P80_0) (s : S80_0) : Tr (Rs th.R S80_0) := (Tr.ite (e80_0_0 p s) (Tr.leaf (Rs.out (Ex.exit (0:Nat)) [(some (SV.ptr (0:Nat) (0:Nat))), some (SV.int .u64 (p.x1)), none, none, none, (some (SV.slc (2:Nat) (1:Nat) (0:Nat) (p.n5))), some (SV.int .i64 (p.x6)), none, none, none, none, none, none, none, none, none, none, none, none, none, none, none, none, none, none, none, none, none, none, none, none, none, none, none, none, none, none, none, none, none, none, none, none, none, none, none, none, none, none, none, none, none, none, none, none, none, none, none, none, none, none, none, none, none, none, none, none, none, none, none, none, none, none, none, none, none, none, none] [(HO.cells (175:Nat) [(SV.ptr (1:Nat) (0:Nat)), SV.int .u64 (p.xh0_1), SV.int .i64 (p.xh0_2)]), HO.res (p.R1), (HO.row (22:Nat) (1:Nat) (p.N2) (fun j => [SV.int .u64 (p.F2_0 j)]))])) (Tr.need (e80_0_2 p s) (Tr.need (e80_0_3 p s) (Tr.need (e80_0_4 p s) (Tr.ite (e80_0_5 p s) (Tr.leaf (Rs.out (Ex.ret) [(some (SV.ptr (0:Nat) (0:Nat))), some (SV.int .u64 (p.x1)), none, none, some (SV.bool (false)), (some (SV.slc (2:Nat) (1:Nat) (0:Nat) (p.n5))), some (SV.int .i64 (p.x6)), none, none, none, none, none, none, none, none, none, none, none, none, none, none, none, none, none, none, none, none, none, none, none, none, none, none, none, none, none, none, none, none, none, none, none, none, none, none, none, none, none, none, none, none, none, none, none, none, none, none, none, none, none, none, none, none, none, none, none, none, none, none, none, none, none, none, none, none, none, none, none] [(HO.cells (175:Nat) [(SV.ptr (1:Nat) (0:Nat)), SV.int .u64 (p.xh0_1), SV.int .i64 (p.xh0_2)]), HO.res (p.R1), (HO.row (22:Nat) (1:Nat) (p.N2) (fun j => [SV.int .u64 (p.F2_0 j)]))])) (Tr.need (e80_0_6 p s) (Tr.need (e80_0_9 p s) (Tr.ite (e80_0_10 p s) (Tr.leaf (Rs.out (Ex.ret) [(some (SV.ptr (0:Nat) (0:Nat))), some (SV.int .u64 (p.x1)), none, none, some (SV.bool (false)), (some (SV.slc (2:Nat) (1:Nat) (0:Nat) (p.n5))), some (SV.int .i64 (p.x6)), none, none, none, none, none, none, none, none, none, none, none, none, none, none, none, none, none, none, none, none, none, none, none, none, none, none, none, none, none, none, none, none, none, none, none, none, none, none, none, none, none, none, none, none, none, none, none, none, none, none, none, none, none, none, none, none, none, none, none, none, none, none, none, none, none, none, none, none, none, none, none] [(HO.cells (175:Nat) [(SV.ptr (1:Nat) (0:Nat)), SV.int .u64 (p.xh0_1), SV.int .i64 (p.xh0_2)]), HO.res (p.R1), (HO.row (22:Nat) (1:Nat) (p.N2) (fun j => [SV.int .u64 (p.F2_0 j)]))])) (Tr.leaf (Rs.on (S80_0.mk ((e80_0_12 p s)))))))))))))
noncomputable def E80_0 : St th.R → Out th := evCode th Try.prog (auto th Try.prog nice82n [] 20) (autoH [(12, L80_1)] [] [] [] : Hints th) (lpAt Try.prog 80 0)
theorem ok80_0 : LoopsOk th Try.prog (autoH [(12, L80_1)] [] [] [] : Hints th) (lpAt Try.prog 80 0) := autoH_ok (bs := [lpAt Try.prog 80 1]) (by kernel_rfl) fun b hb L hL => by
 simp only [List.mem_cons, List.not_mem_nil, or_false] at hb
 rcases hb with rfl
 ·have e : lookL [(12, L80_1)] (firstReg (lpAt Try.prog 80 1)) = some L80_1 := by kernel_rfl
  rw [e] at hL; cases hL
  exact ls80_1
theorem B80_0 : CodeSound th Try.prog (lpAt Try.prog 80 0) E80_0 := evCode_sound (T := th) (P := Try.prog) (tbl := (auto th Try.prog nice82n [] 20)) (auto_sound (nice := nice82n) (us := []) nok82n 20) (autoH [(12, L80_1)] [] [] [] : Hints th) _ ok80_0
noncomputable def L80_0 : St th.R → Out th := loopL d80_0 ofV80_0 r80_0
theorem h1_80_0 (p : P80_0) (s : S80_0) : bld d80_0.tm (toV80_0 p s) = some (I80_0 p s) := by kernel_rfl
theorem h2_80_0 (l : List (Vl th.R)) (p : P80_0) (s : S80_0) (h : ofV80_0 l = some (p, s)) : l = toV80_0 p s := by
 unfold ofV80_0 at h
 split at h
 ·cases h; rfl
 ·cases h
theorem h3_80_0 (p : P80_0) (s : S80_0) : cvE d80_0 (E80_0 (I80_0 p s)) = some ((rf80_0 p s).map (Rs.map (toV80_0 p))) := by kernel_rfl
theorem h3g_80_0 (p : P80_0) (s : S80_0) : (rf80_0 p s).get = (r80_0 p s).get := by kernel_rfl
theorem h4_80_0 (p : P80_0) (s s1 : S80_0) : outH d80_0.dirt d80_0.n0 (r80_0 p s) = repH (maskH d80_0.dirt 0 d80_0.n0 (I80_0 p s1).heap) (r80_0 p s) := by kernel_rfl
theorem ls80_0 : CodeSound th Try.prog (.loop (lpAt Try.prog 80 0)) L80_0 := loopL_sound B80_0 d80_0 I80_0 toV80_0 (by kernel_rfl) h1_80_0 h2_80_0
 (fun p s => ⟨(rf80_0 p s).map (Rs.map (toV80_0 p)), h3_80_0 p s, fun h => by
  rw [Tr.map_ok]
  unfold r80_0 at h; unfold rf80_0
  simp only [Tr.ok, n_e80_0_1, n_e80_0_7, n_e80_0_8, n_e80_0_11, true_and, and_true, forall_const, implies_true] at h ⊢
  try exact h, by rw [Tr.map_get, h3g_80_0 p s]⟩) h4_80_0
theorem ok80 : LoopsOk th Try.prog (autoH [(6, L80_0)] [] [] [] : Hints th) (bodyOf Try.prog 80) := autoH_ok (bs := [lpAt Try.prog 80 0, lpAt Try.prog 80 1]) (by kernel_rfl) fun b hb L hL => by
 simp only [List.mem_cons, List.not_mem_nil, or_false] at hb
 rcases hb with rfl | rfl
 ·have e : lookL [(6, L80_0)] (firstReg (lpAt Try.prog 80 0)) = some L80_0 := by kernel_rfl
  rw [e] at hL; cases hL
  exact ls80_0
 ·have e : lookL [(6, L80_0)] (firstReg (lpAt Try.prog 80 1)) = (none : Option (St th.R → Out th)) := by kernel_rfl
  rw [e] at hL; cases hL
noncomputable def f80_12 (v : V80) : (Nat) := (abF v.M v.c (v.c + (1:Int)).toNat v.at_).length
noncomputable def f80_13 (v : V80) : (Int) := (↑(f80_12 v):Int)
noncomputable def f80_14 (v : V80) : (Bool) := f80_13 v != dpE v.M v.at_
noncomputable def f80_15 (v : V80) : (P80_0) := P80_0.mk v.at_ (f80_12 v) (dpE v.M v.at_) (f80_12 v) (f80_13 v) v.f v.c v.M (f80_12 v) fun (j:Nat) => (abF v.M v.c (v.c + (1:Int)).toNat v.at_).getD j (0:Int)
noncomputable def f80_16 (v : V80) : (S80_0) := lastS (r80_0 (f80_15 v)) (S80_0.mk (0:Int))
noncomputable def f80_17 (v : V80) : (Bool) := cnd (e80_0_0 (f80_15 v) (f80_16 v)) false (e80_0_5 (f80_15 v) (f80_16 v))
noncomputable def f80_18 (v : V80) : (Bool) := cnd (e80_0_0 (f80_15 v) (f80_16 v)) false true
noncomputable def f80_0 (v : V80) : (Prop) := pre83 (V83.mk v.at_ v.f v.c v.M)
noncomputable def f80_1 (v : V80) : (Prop) := ∀ (i:Nat), scpL (0:Nat) ((fun (j:Nat) => [SV.int IntKind.u64 ((abF v.M v.c (v.c + (1:Int)).toNat v.at_).getD j (0:Int))]) i) = true
noncomputable def f80_2 (v : V80) : (Prop) := pre59 (V59.mk v.at_ v.f v.c v.M)
noncomputable def f80_3 (v : V80) : (Prop) := f80_14 v = false → ∀ (i:Nat), i < f80_12 v → (fun (j:Nat) => [SV.int IntKind.u64 ((abF v.M v.c (v.c + (1:Int)).toNat v.at_).getD j (0:Int))]) i = elC (fun (j:Nat) => [SV.int IntKind.u64 ((abF v.M v.c (v.c + (1:Int)).toNat v.at_).getD j (0:Int))]) (0:Nat) [Ck.int IntKind.u64] i
noncomputable def f80_4 (v : V80) : (Prop) := f80_14 v = false → LT (r80_0 (f80_15 v)) (S80_0.mk (0:Int))
noncomputable def f80_5 (v : V80) : (Prop) := f80_14 v = false → f80_17 v = false → f80_18 v = false → pre81 (V81.mk v.at_ v.f v.c v.M)
noncomputable def f80_6 (v : V80) : (Prop) := f80_14 v = false → f80_17 v = false → f80_18 v = false → cnd ((paW v.M v.c v.at_).snd == decide (dpE v.M v.at_ > (0:Int))) (cnd (!!(paW v.M v.c v.at_).snd) true false) false = true → (0:Int) ≤ (0:Int) ∧ (0:Int) < f80_13 v
noncomputable def f80_7 (v : V80) : (Prop) := f80_14 v = false → f80_17 v = false → f80_18 v = false → cnd ((paW v.M v.c v.at_).snd == decide (dpE v.M v.at_ > (0:Int))) (cnd (!!(paW v.M v.c v.at_).snd) true false) false = true → (0:Nat) < f80_12 v
noncomputable def f80_8 (v : V80) : (Bool) := cnd (f80_14 v) false (cnd (f80_17 v) false (cnd (f80_18 v) false (cnd ((paW v.M v.c v.at_).snd == decide (dpE v.M v.at_ > (0:Int))) (cnd (!(paW v.M v.c v.at_).snd) true ((paW v.M v.c v.at_).fst == (abF v.M v.c (v.c + (1:Int)).toNat v.at_).getD (0:Nat) (0:Int))) false)))
noncomputable def f80_9 (v : V80) : (Int) := cnd (f80_14 v) v.f (cnd (f80_17 v) v.f (cnd (f80_18 v) v.f v.f))
noncomputable def f80_10 (v : V80) : (Int) := cnd (f80_14 v) v.c (cnd (f80_17 v) v.c (cnd (f80_18 v) v.c v.c))
noncomputable def f80_11 (v : V80) : (Mem) := mrgM (f80_14 v) v.M (mrgM (f80_17 v) v.M (mrgM (f80_18 v) v.M v.M))
theorem n_f80_1 (v : V80) : f80_1 v := by
 unfold f80_1
 (repeat' first | intro _ | apply And.intro) <;> first | rfl | exact absurd (by assumption) (Nat.not_lt_zero _) | exact scpL_rowSet (by rfl) (by rfl) | exact scpL_rowEl (by kernel_rfl) _ | omega | decide
theorem n_f80_3 (v : V80) : f80_3 v := by
 unfold f80_3
 (repeat' first | intro _ | apply And.intro) <;> first | rfl | exact absurd (by assumption) (Nat.not_lt_zero _) | exact scpL_rowSet (by rfl) (by rfl) | exact scpL_rowEl (by kernel_rfl) _ | omega | decide
noncomputable def ff80 (v : V80) : Tr (Fin th.R) := (Tr.need (f80_0 v) (Tr.need (f80_1 v) (Tr.need (f80_2 v) (Tr.need (f80_3 v) (Tr.need (f80_4 v) (Tr.need (f80_5 v) (Tr.need (f80_6 v) (Tr.need (f80_7 v) (Tr.leaf (SV.bool (f80_8 v), [(HO.cells (175:Nat) [(SV.ptr (1:Nat) (0:Nat)), SV.int .u64 (f80_9 v), SV.int .i64 (f80_10 v)]), HO.res (f80_11 v)], [(0:Nat), (1:Nat), (0:Nat), (1:Nat), (0:Nat), (1:Nat), (0:Nat), (1:Nat)]))))))))))
noncomputable def f80 (v : V80) : Tr (Fin th.R) := (Tr.need (f80_0 v) (Tr.need (f80_2 v) (Tr.need (f80_4 v) (Tr.need (f80_5 v) (Tr.need (f80_6 v) (Tr.need (f80_7 v) (Tr.leaf (SV.bool (f80_8 v), [(HO.cells (175:Nat) [(SV.ptr (1:Nat) (0:Nat)), SV.int .u64 (f80_9 v), SV.int .i64 (f80_10 v)]), HO.res (f80_11 v)], [0, 1]))))))))
noncomputable def C80 : CF th.R := fnC d80 ofV80 (f80 )
theorem q80 (v : V80) : (evFn th Try.prog (auto th Try.prog nice82n [] 20) (autoH [(6, L80_0)] [] [] [] : Hints th) 80) (A80 v) (H80 v) = some (ff80 v) := by kernel_rfl
theorem qg80 (v : V80) : ((ff80 v).map (setD [0, 1])).get = (f80 v).get := by kernel_rfl
theorem qd80 (v : V80) : allD 2 [0, 1] (ff80 v) = true := by kernel_rfl
theorem s80 : Sound Try.prog th 80 (C80 ) := fnC_sound (evFn_sound' (T := th) (P := Try.prog) (tbl := (auto th Try.prog nice82n [] 20)) (auto_sound (nice := nice82n) (us := []) nok82n 20) (H := (autoH [(6, L80_0)] [] [] [] : Hints th)) (k := 80) (fnLoops ok80)) d80 A80 H80 toV80 (by kernel_rfl) (fun v => by kernel_rfl)
 (fun l v h => by
  unfold ofV80 at h
  split at h
  ·cases h; rfl
  ·cases h)
 [0, 1] (fun v => ⟨ff80 v, q80 v, fun h => by
  unfold f80 at h; unfold ff80
  simp only [Tr.ok, n_f80_1, n_f80_3, true_and, and_true, forall_const, implies_true] at h ⊢
  try exact h, qg80 v, qd80 v⟩)
theorem qdd80 (v : V80) : (f80 v).get.2.2 = [0, 1] := by
 rw [← qg80, Tr.map_get]; rfl
def abR : List Nd → Int → List Nd
 | [], _ => []
 | y :: k, d => if y.d < d then y :: abR k y.d else abR k d
def hdR : List Nd → Int × Bool
 | [] => (0, false)
 | y :: _ => (y.t, true)
theorem parR_abR : ∀ (k : List Nd) (d:Int), parR k d = hdR (abR k d)
 | [], _ => rfl
 | y :: k, d => by
  unfold parR abR
  by_cases h : y.d < d
  ·rw [if_pos h, if_pos h]; rfl
  ·rw [if_neg h, if_neg h]; exact parR_abR k d
theorem abR_cons : ∀ {k : List Nd} {d : Int} {y : Nd} {r : List Nd}, abR k d = y :: r → ∃ k1 k2, k = k1 ++ y :: k2 ∧ y.d < d ∧ r = abR k2 y.d
 | [], d, y, r, h => by cases h
 | z :: k, d, y, r, h => by
  unfold abR at h
  by_cases hz : z.d < d
  ·rw [if_pos hz] at h
   cases h
   exact ⟨[], k, rfl, hz, rfl⟩
  ·rw [if_neg hz] at h
   obtain ⟨k1, k2, e, h1, h3⟩ := abR_cons h
   exact ⟨z :: k1, k2, by rw [e]; rfl, h1, h3⟩
theorem abR_len : ∀ (k : List Nd) (d:Int), (abR k d).length ≤ k.length
 | [], _ => Nat.le_refl _
 | y :: k, d => by
  unfold abR
  by_cases h : y.d < d
  ·rw [if_pos h]; exact Nat.succ_le_succ (abR_len k _)
  ·rw [if_neg h]; exact Nat.le_succ_of_le (abR_len k d)
theorem rev_mid {l1 k1 k2 : List Nd} {y : Nd} (e : l1.reverse = k1 ++ y :: k2) : l1 = k2.reverse ++ y :: k1.reverse := by
 have := congrArg List.reverse e
 simpa using this
theorem RepS.ab {t : TS} {σ : Int → Sl} : ∀ (n:Nat) {l1 l2 : List Nd} {g : Nd} (_ : RepS t (l1 ++ g :: l2) σ) (_ : (abR l1.reverse g.d).length ≤ n), abF t.M t.c n g.t = tA (abR l1.reverse g.d)
 | n, l1, l2, g, h, hn => by
  have hp := h.par
  rw [parR_abR] at hp
  cases hq : abR l1.reverse g.d with
  | nil =>
   rw [hq] at hp
   exact abF_stop (.inr (by rw [hp]; rfl))
  | cons y r =>
   rw [hq] at hp hn
   obtain ⟨m, rfl⟩ : ∃ m, n = m + 1 := ⟨n - 1, by simp only [List.length_cons] at hn; omega⟩
   obtain ⟨k1, k2, e, h1, h3⟩ := abR_cons hq
   have hb : (paW t.M t.c g.t).2 = true := by rw [hp]; rfl
   have hb1 : (paW t.M t.c g.t).1 = y.t := by rw [hp]; rfl
   rw [abF_on hb rfl, hb1]
   have el := rev_mid e
   have h' : RepS t (k2.reverse ++ y :: (k1.reverse ++ g :: l2)) σ := by rw [el] at h; simpa using h
   have hm : (abR k2.reverse.reverse y.d).length ≤ m := by
    rw [List.reverse_reverse, ← h3]
    simp only [List.length_cons] at hn
    omega
   have := RepS.ab m h' hm
   rw [List.reverse_reverse, ← h3] at this
   show y.t :: abF t.M t.c m y.t = y.t :: tA r
   rw [this]
 termination_by n => n
def StR : List Nd → Int → Prop
 | [], d => d ≤ 0
 | y :: k, d => d ≤ y.d + 1 ∧ StR k y.d
theorem StR.mono : ∀ {k : List Nd} {d e : Int}, d ≤ e → StR k e → StR k d
 | [], _, _, h, g => Int.le_trans h g
 | _ :: _, _, _, h, g => ⟨Int.le_trans h g.1, g.2⟩
theorem lsD_snoc : ∀ (l : List Int) (b x:Int), lsD b (l ++ [x]) = x + 1
 | [], _, _ => rfl
 | y :: l, _, x => lsD_snoc l (y + 1) x
theorem StR.of : ∀ {k : List Nd} {d : Int}, d ≤ lsD 0 (dps k.reverse) → StD 0 (dps k.reverse) → StR k d
 | [], _, h, _ => h
 | y :: k, d, h, g => by
  have e : dps (y :: k).reverse = dps k.reverse ++ [y.d] := by rw [List.reverse_cons, dps_app]; rfl
  rw [e] at h g
  rw [StD_app] at g
  rw [lsD_snoc] at h
  exact ⟨h, StR.of g.2.1 g.1⟩
theorem Stp.rev {l1 l2 : List Nd} {g : Nd} (h : Stp (l1 ++ g :: l2)) : StR l1.reverse g.d := by
 unfold Stp at h
 rw [dps_app, StD_app] at h
 exact StR.of (by rw [List.reverse_reverse]; exact h.2.1) (by rw [List.reverse_reverse]; exact h.1)
theorem abR_dps : ∀ {k : List Nd} {d : Int}, StR k d → 0 ≤ d → (∀ y, y ∈ k → 0 ≤ y.d) → ((abR k d).length:Int) = d ∧ ∀ (i:Nat) (y : Nd), (abR k d)[i]? = some y → y.d = d - 1 - i
 | [], d, h, h0, _ => by
  have h : d ≤ 0 := h
  exact ⟨by show ((0:Nat):Int) = d; omega, fun i y e => by simp [abR] at e⟩
 | z :: k, d, h, h0, hk => by
  obtain ⟨h1, h2⟩ := h
  unfold abR
  by_cases hz : z.d < d
  ·rw [if_pos hz]
   obtain ⟨e1, e2⟩ := abR_dps h2 (hk z List.mem_cons_self) fun y hy => hk y (List.mem_cons_of_mem _ hy)
   refine ⟨by simp only [List.length_cons]; omega, fun i y e => ?_⟩
   cases i with
   | zero =>
    have e : z = y := by simpa using e
    subst e
    omega
   | succ i =>
    have := e2 i y (by simpa using e)
    omega
  ·rw [if_neg hz]
   exact abR_dps (StR.mono (by omega) h2) h0 fun y hy => hk y (List.mem_cons_of_mem _ hy)
theorem abR_above : ∀ {k : List Nd} {d : Int} {y : Nd}, y ∈ abR k d → ∃ k1 k2, k = k1 ++ y :: k2 ∧ y.d < d ∧ ∀ x, x ∈ k1 → y.d < x.d
 | [], _, _, h => by cases h
 | z :: k, d, y, h => by
  unfold abR at h
  by_cases hz : z.d < d
  ·rw [if_pos hz] at h
   rcases List.mem_cons.1 h with rfl | h
   ·exact ⟨[], k, rfl, hz, fun x hx => by cases hx⟩
   ·obtain ⟨k1, k2, e, h1, h2⟩ := abR_above h
    refine ⟨z :: k1, k2, by rw [e]; rfl, by omega, fun x hx => ?_⟩
    rcases List.mem_cons.1 hx with rfl | hx
    ·exact h1
    ·exact h2 x hx
  ·rw [if_neg hz] at h
   obtain ⟨k1, k2, e, h1, h2⟩ := abR_above h
   refine ⟨z :: k1, k2, by rw [e]; rfl, h1, fun x hx => ?_⟩
   rcases List.mem_cons.1 hx with rfl | hx
   ·omega
   ·exact h2 x hx
theorem mem_tw2 {p : Nd → Bool} : ∀ {A : List Nd} {g : Nd} {B : List Nd}, (∀ x, x ∈ A → p x = true) → p g = true → g ∈ (A ++ g :: B).takeWhile p
 | [], g, B, _, h => by
  rw [List.nil_append, List.takeWhile_cons, h]
  exact List.mem_cons_self
 | a :: A, g, B, hA, h => by
  rw [List.cons_append, List.takeWhile_cons, hA a List.mem_cons_self]
  exact List.mem_cons_of_mem _ (mem_tw2 (fun x hx => hA x (List.mem_cons_of_mem _ hx)) h)
theorem RepS.ab_mem {t : TS} {σ : Int → Sl} {l1 l2 : List Nd} {g : Nd} (h : RepS t (l1 ++ g :: l2) σ) {y : Nd} (hy : y ∈ abR l1.reverse g.d) : g.t ∈ blw t.M t.c y.t ∧ y ∈ l1 := by
 obtain ⟨k1, k2, e, h1, h2⟩ := abR_above hy
 have el := rev_mid e
 have h' : RepS t (k2.reverse ++ y :: (k1.reverse ++ g :: l2)) σ := by rw [el] at h; simpa using h
 refine ⟨?_, by rw [el]; simp⟩
 rw [h'.blw_at]
 exact mem_tA.2 ⟨g, mem_tw2 (fun x hx => decide_eq_true (h2 x (List.mem_reverse.1 hx))) (decide_eq_true h1), rfl⟩
theorem RepS.climb {t : TS} {σ : Int → Sl} {l : List Nd} (h : RepS t l σ) (hs : Stp l) {a : Int} (ha : a ∈ tA l) :
  U64 a ∧ 0 ≤ dpE t.M a ∧ ((abF t.M t.c (t.c + 1).toNat a).length:Int) = dpE t.M a ∧ (abF t.M t.c (t.c + 1).toNat a).length ≤ l.length
  ∧ (∀ (i:Nat), i < (abF t.M t.c (t.c + 1).toNat a).length → U64 ((abF t.M t.c (t.c + 1).toNat a).getD i 0) ∧ dpE t.M ((abF t.M t.c (t.c + 1).toNat a).getD i 0) = dpE t.M a - 1 - i ∧ a ∈ blw t.M t.c ((abF t.M t.c (t.c + 1).toNat a).getD i 0))
  ∧ (paW t.M t.c a).2 = decide (dpE t.M a > 0) ∧ ((paW t.M t.c a).2 = true → 0 < (abF t.M t.c (t.c + 1).toNat a).length ∧ (paW t.M t.c a).1 = (abF t.M t.c (t.c + 1).toNat a).getD 0 0) := by
 obtain ⟨g, hg, rfl⟩ := mem_tA.1 ha
 obtain ⟨l1, l2, rfl⟩ := List.append_of_mem hg
 have hd : dpE t.M g.t = g.d := (h.tells (y := g) (by simp)).2.2.1
 have g0 := (h.ok g (by simp)).d0
 have hll := h.len_le
 have hal := abR_len l1.reverse g.d
 rw [List.length_reverse] at hal
 have hab := h.ab (t.c + 1).toNat (by
  simp only [List.length_append, List.length_cons] at hll
  omega)
 obtain ⟨e1, e2⟩ := abR_dps hs.rev g0 fun y hy => (h.ok y (by simp [List.mem_reverse.1 hy])).d0
 have hp := h.par
 rw [parR_abR] at hp
 rw [hab, hd, hp]
 have tl : (tA (abR l1.reverse g.d)).length = (abR l1.reverse g.d).length := by simp [tA]
 rw [tl]
 refine ⟨(h.tells (y := g) (by simp)).2.2.2.1, g0, e1, by simp only [List.length_append, List.length_cons]; omega, fun i hi => ?_, ?_, ?_⟩
 ·have hy := List.getElem_mem hi
  have e3 : (tA (abR l1.reverse g.d)).getD i 0 = ((abR l1.reverse g.d)[i]).t := by
   simp [tA, List.getD, hi]
  rw [e3]
  obtain ⟨m1, m2⟩ := h.ab_mem hy
  have m3 := h.tells (y := (abR l1.reverse g.d)[i]) (by simp [m2])
  refine ⟨m3.2.2.2.1, ?_, m1⟩
  rw [m3.2.2.1]
  exact e2 i _ (by simp [hi])
 ·cases hq : abR l1.reverse g.d with
  | nil =>
   rw [hq] at e1
   have : g.d = 0 := e1.symm
   rw [this]; rfl
  | cons y r =>
   rw [hq] at e1
   simp only [List.length_cons] at e1
   rw [decide_eq_true (by omega)]; rfl
 ·intro e
  cases hq : abR l1.reverse g.d with
  | nil => rw [hq] at e; cases e
  | cons y r => exact ⟨Nat.succ_pos _, rfl⟩
theorem climbW {M : Mem} {f c : Int} {σ : Int → Sl} {l : List Nd} (h : RepS ⟨M, f, c⟩ l σ) (hs : Stp l) {a : Int} (ha : a ∈ tA l) :
  U64 a ∧ 0 ≤ dpE M a ∧ ((abF M c (c + 1).toNat a).length:Int) = dpE M a ∧ (abF M c (c + 1).toNat a).length ≤ l.length
  ∧ (∀ (i:Nat), i < (abF M c (c + 1).toNat a).length → U64 ((abF M c (c + 1).toNat a).getD i 0) ∧ dpE M ((abF M c (c + 1).toNat a).getD i 0) = dpE M a - 1 - i ∧ a ∈ blw M c ((abF M c (c + 1).toNat a).getD i 0))
  ∧ (paW M c a).2 = decide (dpE M a > 0) ∧ ((paW M c a).2 = true → 0 < (abF M c (c + 1).toNat a).length ∧ (paW M c a).1 = (abF M c (c + 1).toNat a).getD 0 0) := h.climb hs ha
def rtN (l : List Nd) : List Nd := l.filter (fun y => y.d == 0)
theorem RepS.roots {t : TS} {σ : Int → Sl} {l : List Nd} (h : RepS t l σ) : (chF t.M t.c.toNat t.f).filter (fun a => dpE t.M a == 0) = tA (rtN l) := by
 have hl : chF t.M t.c.toNat t.f = tA l := h.list
 rw [hl]
 unfold tA rtN
 rw [List.filter_map]
 congr 1
 apply List.filter_congr
 intro y hy
 show (dpE t.M y.t == 0) = (y.d == 0)
 rw [(h.tells hy).2.2.1]
set_option maxRecDepth 100000
theorem l80_1 {p : P80_1} {s : S80_1} (hp : p.x42 = p.n41 ∧ p.N3 = p.n41 ∧ p.n41 ≤ 200000) (hs : s.x43 = 0) (hm : ∃ j, j < p.n41 ∧ p.F3_0 j = p.x1) : LT (r80_1 p) s ∧ (lastS (r80_1 p) s).b9 = true := by
 obtain ⟨h42, hN, hL⟩ := hp
 refine LT.post (fun s : S80_1 => ∃ k : Nat, s.x43 = k ∧ k ≤ p.n41 ∧ ∀ j, j < k → p.F3_0 j = p.x1 → s.b9 = true) (fun s : S80_1 => s.b9 = true) (fun s : S80_1 => (p.n41 - s.x43).toNat) ?_ ⟨0, hs, Nat.zero_le _, fun j hj => absurd hj (Nat.not_lt_zero _)⟩
 rintro ⟨b9, x43⟩ ⟨k, g1, g2, g3⟩
 simp only at g1 g3
 subst g1
 have w2 : IntKind.i64.wrap ((k:Int) + 1) = ((k + 1:Nat):Int) := by rw [wi (by omega) (by omega)]; omega
 have e7 : e80_1_7 p ⟨b9, k⟩ = k := by show 0 + (k:Int).toNat = k; omega
 by_cases hc : k < p.n41
 ·have hd : e80_1_0 p ⟨b9, k⟩ = false := by
   show cnd (decide ((k:Int) < p.x42)) false true = false
   rw [h42, decide_eq_true (by omega)]; rfl
  simp only [r80_1, hd, Tr.ok, Tr.get]
  refine ⟨⟨(fun e => by cases e), fun _ => ⟨⟨by show (0:Int) ≤ k; omega, by show (k:Int) < p.n41; omega⟩, by show e80_1_7 p _ < p.N3; rw [e7, hN]; exact hc, trivial⟩⟩, .inr ⟨_, rfl, ⟨k + 1, w2, hc, fun j hj he => ?_⟩, ?_⟩⟩
  ·show cnd b9 true (p.F3_0 (e80_1_7 p ⟨b9, k⟩) == p.x1) = true
   rw [e7]
   by_cases hjk : j = k
   ·subst hjk; rw [he]; cases b9 <;> simp [cnd]
   ·rw [g3 j (by omega) he]; rfl
  ·show ((p.n41:Int) - e80_1_6 p _).toNat < ((p.n41:Int) - (k:Int)).toNat
   simp only [e80_1_6, w2]
   omega
 ·have hd : e80_1_0 p ⟨b9, k⟩ = true := by
   show cnd (decide ((k:Int) < p.x42)) false true = true
   rw [h42, decide_eq_false (by omega)]; rfl
  refine ⟨?_, .inl ⟨?_, ?_⟩⟩
  ·simp only [r80_1, hd, Tr.ok]
   exact ⟨fun _ => trivial, (fun e => by cases e)⟩
  ·simp only [r80_1, hd, Tr.get]
   exact ⟨_, _, _, rfl⟩
  ·obtain ⟨j, hj, he⟩ := hm
   exact g3 j (by omega) he
theorem l80_0 {p : P80_0} {s : S80_0} (ht : TR ⟨p.R1, p.xh0_1, p.xh0_2⟩) (hcc : p.xh0_2 ≤ 100000) (hp : p.x25 = p.n24 ∧ p.N2 = p.n24 ∧ p.n24 ≤ 100000) (h6 : (p.n24:Int) = p.x6)
  (ha : ∀ i : Nat, i < p.n24 → U64 (p.F2_0 i) ∧ dpE p.R1 (p.F2_0 i) = p.x6 - 1 - i ∧ p.x1 ∈ blw p.R1 p.xh0_2 (p.F2_0 i)) (hs : s.x26 = 0) : LT (r80_0 p) s ∧ e80_0_0 p (lastS (r80_0 p) s) = true := by
 obtain ⟨h25, hN, hL⟩ := hp
 refine LT.post (fun s : S80_0 => ∃ k : Nat, s.x26 = k ∧ k ≤ p.n24) (fun s : S80_0 => e80_0_0 p s = true) (fun s : S80_0 => (p.n24 - s.x26).toNat) ?_ ⟨0, hs, Nat.zero_le _⟩
 rintro ⟨x26⟩ ⟨k, g1, g2⟩
 simp only at g1
 subst g1
 have w2 : IntKind.i64.wrap ((k:Int) + 1) = ((k + 1:Nat):Int) := by rw [wi (by omega) (by omega)]; omega
 have e13 : e80_0_13 p ⟨k⟩ = k := by show 0 + (k:Int).toNat = k; omega
 have e14 : e80_0_14 p ⟨k⟩ = p.F2_0 k := by unfold e80_0_14; rw [e13]
 by_cases hc : k < p.n24
 ·have hd : e80_0_0 p ⟨k⟩ = false := by
   show cnd (decide ((k:Int) < p.x25)) false true = false
   rw [h25, decide_eq_true (by omega)]; rfl
  obtain ⟨a1, a2, a3⟩ := ha k hc
  rw [← e14] at a1 a2 a3
  have h5 : e80_0_5 p ⟨k⟩ = false := by
   show (dpE p.R1 (e80_0_14 p ⟨k⟩) != IntKind.i64.wrap (IntKind.i64.wrap (p.x6 - 1) - (k:Int))) = false
   have q1 : IntKind.i64.wrap (p.x6 - 1) = p.x6 - 1 := wi (by omega) (by omega)
   rw [a2, q1, wi (by omega) (by omega)]
   exact bne_self_eq_false _
  have hbl := blw_len p.R1 p.xh0_2 (e80_0_14 p ⟨k⟩)
  obtain ⟨j, hj, he⟩ := List.mem_iff_getElem.1 a3
  obtain ⟨m1, m2⟩ := l80_1 (p := P80_1.mk p.x1 p.n5 p.x6 p.n24 p.x25 k (e80_0_15 p ⟨k⟩) (↑(e80_0_15 p ⟨k⟩):Int) p.xh0_1 p.xh0_2 p.R1 p.N2 p.F2_0 (e80_0_15 p ⟨k⟩) fun (j:Nat) => (blw p.R1 p.xh0_2 (e80_0_14 p ⟨k⟩)).getD j (0:Int)) (s := ⟨false, 0⟩)
   ⟨rfl, rfl, by show (blw p.R1 p.xh0_2 (e80_0_14 p ⟨k⟩)).length ≤ 200000; omega⟩ rfl ⟨j, hj, by show (blw p.R1 p.xh0_2 (e80_0_14 p ⟨k⟩)).getD j 0 = p.x1; simp [List.getD, hj, he]⟩
  have h10 : e80_0_10 p ⟨k⟩ = false := by
   unfold e80_0_10
   rw [m2]; rfl
  simp only [r80_0, hd, h5, h10, Tr.ok, Tr.get]
  refine ⟨⟨(fun e => by cases e), fun _ => ⟨⟨by show (0:Int) ≤ k; omega, by show (k:Int) < p.n24; omega⟩, by show e80_0_13 p _ < p.N2; rw [e13, hN]; exact hc, a1, (fun e => by cases e), fun _ => ⟨⟨a1, ht, hcc⟩, m1, (fun e => by cases e), fun _ => trivial⟩⟩⟩, .inr ⟨_, rfl, ⟨k + 1, w2, hc⟩, ?_⟩⟩
  show ((p.n24:Int) - e80_0_12 p _).toNat < ((p.n24:Int) - (k:Int)).toNat
  simp only [e80_0_12, w2]
  omega
 ·have hd : e80_0_0 p ⟨k⟩ = true := by
   show cnd (decide ((k:Int) < p.x25)) false true = true
   rw [h25, decide_eq_false (by omega)]; rfl
  refine ⟨?_, .inl ⟨?_, hd⟩⟩
  ·simp only [r80_0, hd, Tr.ok]
   exact ⟨fun _ => trivial, (fun e => by cases e)⟩
  ·simp only [r80_0, hd, Tr.get]
   exact ⟨_, _, _, rfl⟩
def pre80 (v : V80) : Prop := U64 v.at_ ∧ TR (TS.mk v.M v.f v.c) ∧ v.c ≤ 100000 ∧ ∃ l σ, RepS (TS.mk v.M v.f v.c) l σ ∧ Stp l ∧ v.at_ ∈ tA l
theorem n80 (v : V80) (h : pre80 v) : (f80 v).ok ∧ (f80 v).get.1 = .bool true ∧ HOws (f80 v).get.2.1 [HO.cells 175 [.ptr 1 0, .int .u64 (v.f), .int .i64 (v.c)], HO.res v.M] := by
 obtain ⟨hu, ht, hc, l, σ, hr, hs, ha⟩ := h
 obtain ⟨c1, c2, c3, c4, c5, c6, c7⟩ := climbW hr hs ha
 have hcl : v.c = l.length := hr.c
 have h14 : f80_14 v = false := by
  show (((abF v.M v.c (v.c + 1).toNat v.at_).length:Int) != dpE v.M v.at_) = false
  rw [c3]
  exact bne_self_eq_false _
 have m : LT (r80_0 (f80_15 v)) ⟨0⟩ ∧ e80_0_0 (f80_15 v) (f80_16 v) = true := l80_0 (p := f80_15 v) (s := ⟨0⟩) ht hc ⟨rfl, rfl, by show (abF v.M v.c (v.c + 1).toNat v.at_).length ≤ 100000; omega⟩ c3 c5 rfl
 have h17 : f80_17 v = false := by unfold f80_17; rw [m.2]; rfl
 have h18 : f80_18 v = false := by unfold f80_18; rw [m.2]; rfl
 have hg : cnd ((paW v.M v.c v.at_).2 == decide (dpE v.M v.at_ > 0)) (cnd (!!(paW v.M v.c v.at_).2) true false) false = true → (paW v.M v.c v.at_).2 = true := by
  rw [← c6]
  cases (paW v.M v.c v.at_).2 <;> simp [cnd]
 refine ⟨⟨⟨hu, ht, hc, l, σ, hr⟩, hu, fun _ => m.1, fun _ _ _ => ⟨hu, ht, l, σ, hr⟩, fun _ _ _ h => ?_, fun _ _ _ h => (c7 (hg h)).1, trivial⟩, ?_, ?_⟩
 ·have := (c7 (hg h)).1
  refine ⟨Int.le_refl _, ?_⟩
  show (0:Int) < ((abF v.M v.c (v.c + 1).toNat v.at_).length:Int)
  omega
 ·have h8 : f80_8 v = true := by
   unfold f80_8
   rw [h14, h17, h18, ← c6]
   cases hb : (paW v.M v.c v.at_).2 with
   | false => rfl
   | true => rw [(c7 hb).2]; simp [cnd]
  simp only [f80, Tr.get, h8]
 ·simp only [f80, Tr.get, f80_9, f80_10, f80_11, h14, h17, h18]
  exact .refl _
noncomputable def f80n (v : V80) : Tr (Fin th.R) := .need (pre80 v) (.leaf (.bool true, [.cells 175 [.ptr 1 0, .int .u64 (v.f), .int .i64 (v.c)], .res v.M], [0, 1]))
theorem s80n : Sound Try.prog th 80 (fnC d80 ofV80 f80n) := fnC_refine s80 fun v h => by
 obtain ⟨hp, _⟩ := h
 obtain ⟨a, b, c⟩ := n80 v hp
 exact ⟨a, b.symm, (qdd80 v).symm, c, by show 2 ≤ 2; decide⟩
noncomputable def nice80n : List (Nat × CF th.R) := (80, lift (fnC d80 ofV80 f80n)) :: nice82n
theorem nok80n : NiceOk Try.prog th nice80n := ⟨lift_sound s80n, nok82n⟩
set_option maxRecDepth 100000
noncomputable def f83c (v : V83) : Tr (Fin th.R) := .need (pre83 v) (.leaf (.slc 2 1 0 (abF v.M v.c (v.c + 1).toNat v.at_).length, [.cells 175 [.ptr 1 0, .int .u64 v.f, .int .i64 v.c], .res v.M, .row 22 1 (abF v.M v.c (v.c + 1).toNat v.at_).length (fun j => [.int .u64 ((abF v.M v.c (v.c + 1).toNat v.at_).getD j 0)])], []))
theorem cw83 (v : V83) : fnC d83 ofV83 f83n (A83 v) (H83 v) = some ((f83n v).map (fixF (H83 v))) := by kernel_rfl
theorem s83c : Sound Try.prog th 83 (fnC d83 ofV83 f83c) := by
 refine fnC_direct (T := th) d83 A83 H83 toV83 (by kernel_rfl) (fun v => by kernel_rfl) ?_ ?_ (fun v _ => by show 2 ≤ 3; decide) (fun v _ n hn _ => ?_)
 ·intro l v h
  unfold ofV83 at h
  split at h
  ·cases h; rfl
  ·cases h
 ·intro v hok K w0 ρ w vargs I hr
  exact fnC_out s83n (cw83 v) ⟨hok.1, trivial⟩ I hr
 ·have hn : n < 2 := hn
  rcases n with _ | _ | n
  ·rfl
  ·rfl
  ·omega
noncomputable def nice17c : List (Nat × CF th.R) := (83, lift (fnC d83 ofV83 f83c)) :: nice80n
theorem nok17c : NiceOk Try.prog th nice17c := ⟨lift_sound s83c, nok80n⟩
set_option maxRecDepth 100000
structure V17 where
 L : Nat
 x : Int
 Q : Nat
 ob_ : Obj
 ok : Nat → Int
 oa : Nat → Int
 ob : Nat → Int
 kc : Nat → Int
 ac : Nat → Int
 bc : Nat → Int
 rc : Nat → Int
 gc : Nat → Int
 sc : Nat → Int
 mc : Nat → Int
def A17 (v : V17) : List SV := [.slc 0 10 0 v.L, .int .u64 v.x]
def H17 (v : V17) : List (HO th.R) := [.ro 85 10 v.Q (rw10 v.ok v.oa v.ob v.kc v.ac v.bc v.rc v.gc v.sc v.mc) v.ob_]
def toV17 (v : V17) : List (Vl th.R) := [.n v.L, .i v.x, .n v.Q, .o v.ob_, .c v.ok, .c v.oa, .c v.ob, .c v.kc, .c v.ac, .c v.bc, .c v.rc, .c v.gc, .c v.sc, .c v.mc]
def ofV17 : List (Vl th.R) → Option V17
 | [.n L, .i x, .n Q, .o ob_, .c ok, .c oa, .c ob, .c kc, .c ac, .c bc, .c rc, .c gc, .c sc, .c mc] => some ⟨L, x, Q, ob_, ok, oa, ob, kc, ac, bc, rc, gc, sc, mc⟩
 | _ => none
def d17 : Ft := ⟨[.slc0 0 10, .int .u64], [.roc 85 [.int .i64, .int .u64, .int .u64, .int .i64, .int .u64, .int .i64, .int .i64, .int .i64, .int .i64, .int .u64]]⟩
structure P17_0 where
 x1 : Int
 n27 : Nat
 x28 : Int
 N0 : Nat
 O0 : Obj
 F0_0 : Nat → Int
 F0_1 : Nat → Int
 F0_2 : Nat → Int
 F0_3 : Nat → Int
 F0_4 : Nat → Int
 F0_5 : Nat → Int
 F0_6 : Nat → Int
 F0_7 : Nat → Int
 F0_8 : Nat → Int
 F0_9 : Nat → Int
 xh3_0 : Int
structure S17_0 where
 x29 : Int
 xh1_1 : Int
 xh1_2 : Int
 R2 : th.R
 n7_1 : Nat
 N4 : Nat
 F4_0 : Nat → Int
 F4_1 : Nat → Int
 F4_2 : Nat → Int
 F4_3 : Nat → Int
 F4_4 : Nat → Int
 F4_5 : Nat → Int
 F4_6 : Nat → Int
 F4_7 : Nat → Int
 F4_8 : Nat → Int
noncomputable instance : Inhabited S17_0 := ⟨⟨0, 0, 0, dR, 0, 0, fun _ => 0, fun _ => 0, fun _ => 0, fun _ => 0, fun _ => 0, fun _ => 0, fun _ => 0, fun _ => 0, fun _ => 0⟩⟩
def I17_0 (p : P17_0) (s : S17_0) : St th.R := ⟨[none, some (.int .u64 p.x1), none, none, none, some (.ptr 1 0), none, some (.ptr 3 0), none, none, none, none, none, none, none, none, none, none, none, none, none, none, none, none, none, none, none, some (.slc 0 10 0 p.n27), some (.int .i64 p.x28), some (.int .i64 s.x29), none, none, none, none, none, none, none, none, none, none, none, none, none, none, none, none, none, none, none, none, none, none, none, none, none, none, none, none, none, none, none, none, none, none, none, none, none, none, none, none, none, none, none, none, none, none, none, none, none, none, none, none, none, none, none, none, none, none, none, none, none, none, none], [.ro 85 10 p.N0 (rw10 p.F0_0 p.F0_1 p.F0_2 p.F0_3 p.F0_4 p.F0_5 p.F0_6 p.F0_7 p.F0_8 p.F0_9) p.O0, .cells 175 [.ptr 2 0, .int .u64 s.xh1_1, .int .i64 s.xh1_2], .res s.R2, .cells 55 [.int .u64 p.xh3_0, .slc 4 9 0 s.n7_1], .row 100 9 s.N4 (rw9 s.F4_0 s.F4_1 s.F4_2 s.F4_3 s.F4_4 s.F4_5 s.F4_6 s.F4_7 s.F4_8)], [], []⟩
def d17_0 : Lp := ⟨⟨93, [(1, .int .u64), (5, .ptr 1 0), (7, .ptr 3 0), (27, .slc0 0 10), (28, .int .i64), (29, .int .i64)], [.roc 85 [.int .i64, .int .u64, .int .u64, .int .i64, .int .u64, .int .i64, .int .i64, .int .i64, .int .i64, .int .u64], .cells 175 [.ptr 2 0, .int .u64, .int .i64], .res, .cells 55 [.int .u64, .slc0 4 9], .rowc 100 [.int .u64, .int .i64, .int .u64, .int .i64, .int .i64, .int .i64, .int .i64, .int .u64, .int .i64]]⟩, [⟨2007, 100, 9⟩], 4, [1, 2, 3], [1, 5, 7, 73, 74, 75, 76, 77, 78, 79, 80, 81, 82, 83, 84, 85, 86, 87, 88, 89, 90, 91], []⟩
def toV17_0 (p : P17_0) (s : S17_0) : List (Vl th.R) := [.i p.x1, .n p.n27, .i p.x28, .i s.x29, .n p.N0, .o p.O0, .c p.F0_0, .c p.F0_1, .c p.F0_2, .c p.F0_3, .c p.F0_4, .c p.F0_5, .c p.F0_6, .c p.F0_7, .c p.F0_8, .c p.F0_9, .i s.xh1_1, .i s.xh1_2, .r s.R2, .i p.xh3_0, .n s.n7_1, .n s.N4, .c s.F4_0, .c s.F4_1, .c s.F4_2, .c s.F4_3, .c s.F4_4, .c s.F4_5, .c s.F4_6, .c s.F4_7, .c s.F4_8]
def ofV17_0 : List (Vl th.R) → Option (P17_0 × S17_0)
 | .i x1 :: .n n27 :: .i x28 :: .i x29 :: .n N0 :: .o O0 :: .c F0_0 :: .c F0_1 :: .c F0_2 :: .c F0_3 :: .c F0_4 :: .c F0_5 :: .c F0_6 :: .c F0_7 :: .c F0_8 :: .c F0_9 :: .i xh1_1 :: .i xh1_2 :: .r R2 :: .i xh3_0 :: .n n7_1 :: .n N4 :: .c F4_0 :: .c F4_1 :: .c F4_2 :: .c F4_3 :: .c F4_4 :: .c F4_5 :: .c F4_6 :: .c F4_7 :: .c F4_8 :: [] => some (⟨x1, n27, x28, N0, O0, F0_0, F0_1, F0_2, F0_3, F0_4, F0_5, F0_6, F0_7, F0_8, F0_9, xh3_0⟩, ⟨x29, xh1_1, xh1_2, R2, n7_1, N4, F4_0, F4_1, F4_2, F4_3, F4_4, F4_5, F4_6, F4_7, F4_8⟩)
 | _ => none
noncomputable def e17_0_24 (p : P17_0) (s : S17_0) : (Nat) := (0:Nat) + s.x29.toNat
noncomputable def e17_0_25 (p : P17_0) (s : S17_0) : (Int) := p.F0_0 (e17_0_24 p s)
noncomputable def e17_0_26 (p : P17_0) (s : S17_0) : (Int) := p.F0_1 (e17_0_24 p s)
noncomputable def e17_0_27 (p : P17_0) (s : S17_0) : (Int) := p.F0_2 (e17_0_24 p s)
noncomputable def e17_0_28 (p : P17_0) (s : S17_0) : (Int) := p.F0_3 (e17_0_24 p s)
noncomputable def e17_0_29 (p : P17_0) (s : S17_0) : (Int) := p.F0_4 (e17_0_24 p s)
noncomputable def e17_0_30 (p : P17_0) (s : S17_0) : (Int) := p.F0_5 (e17_0_24 p s)
noncomputable def e17_0_31 (p : P17_0) (s : S17_0) : (Int) := p.F0_6 (e17_0_24 p s)
noncomputable def e17_0_32 (p : P17_0) (s : S17_0) : (Int) := p.F0_7 (e17_0_24 p s)
noncomputable def e17_0_33 (p : P17_0) (s : S17_0) : (Int) := p.F0_8 (e17_0_24 p s)
noncomputable def e17_0_34 (p : P17_0) (s : S17_0) : (Int) := p.F0_9 (e17_0_24 p s)
noncomputable def e17_0_35 (p : P17_0) (s : S17_0) : (Op) := Op.mk (e17_0_25 p s) (e17_0_26 p s) (e17_0_27 p s) (Sl.mk (e17_0_28 p s) (e17_0_29 p s) (e17_0_30 p s) (e17_0_31 p s) (e17_0_32 p s) (e17_0_33 p s) (e17_0_34 p s) (0:Int) (0:Int) (0:Int))
noncomputable def e17_0_36 (p : P17_0) (s : S17_0) : (Nat) := (mdL p.xh3_0 (nds (ndf s.F4_0 s.F4_1 s.F4_2 s.F4_3 s.F4_4 s.F4_5 s.F4_6 s.F4_7 s.F4_8) s.n7_1) (e17_0_35 p s)).length
noncomputable def e17_0_37 (p : P17_0) (s : S17_0) : (TS) := dnT (TS.mk s.R2 s.xh1_1 s.xh1_2) (e17_0_35 p s)
noncomputable def e17_0_0 (p : P17_0) (s : S17_0) : (Bool) := cnd (decide (s.x29 < p.x28)) false true
noncomputable def e17_0_1 (p : P17_0) (s : S17_0) : (Prop) := (∀ (i:Nat), scpL (0:Nat) ((rw10 p.F0_0 p.F0_1 p.F0_2 p.F0_3 p.F0_4 p.F0_5 p.F0_6 p.F0_7 p.F0_8 p.F0_9) i) = true) ∧ ∀ (i:Nat), scpL (0:Nat) ((rw9 s.F4_0 s.F4_1 s.F4_2 s.F4_3 s.F4_4 s.F4_5 s.F4_6 s.F4_7 s.F4_8) i) = true
noncomputable def e17_0_2 (p : P17_0) (s : S17_0) : (Prop) := (0:Int) ≤ s.x29 ∧ s.x29 < (↑p.n27:Int)
noncomputable def e17_0_3 (p : P17_0) (s : S17_0) : (Prop) := e17_0_24 p s < p.N0
noncomputable def e17_0_4 (p : P17_0) (s : S17_0) : (Prop) := pre54 (V54.mk (e17_0_25 p s) (e17_0_26 p s) (e17_0_27 p s) (e17_0_28 p s) (e17_0_29 p s) (e17_0_30 p s) (e17_0_31 p s) (e17_0_32 p s) (e17_0_33 p s) (e17_0_34 p s) s.xh1_1 s.xh1_2 s.R2)
noncomputable def e17_0_5 (p : P17_0) (s : S17_0) : (Prop) := ∀ (i:Nat), scpL (0:Nat) ((rw9 s.F4_0 s.F4_1 s.F4_2 s.F4_3 s.F4_4 s.F4_5 s.F4_6 s.F4_7 s.F4_8) i) = true
noncomputable def e17_0_6 (p : P17_0) (s : S17_0) : (Prop) := ∀ (i:Nat), i < s.N4 → (rw9 s.F4_0 s.F4_1 s.F4_2 s.F4_3 s.F4_4 s.F4_5 s.F4_6 s.F4_7 s.F4_8) i = elC (rw9 s.F4_0 s.F4_1 s.F4_2 s.F4_3 s.F4_4 s.F4_5 s.F4_6 s.F4_7 s.F4_8) (0:Nat) ck9 i
noncomputable def e17_0_7 (p : P17_0) (s : S17_0) : (Prop) := pre64 (V64.mk p.xh3_0 s.n7_1 (e17_0_25 p s) (e17_0_26 p s) (e17_0_27 p s) (e17_0_28 p s) (e17_0_29 p s) (e17_0_30 p s) (e17_0_31 p s) (e17_0_32 p s) (e17_0_33 p s) (e17_0_34 p s) s.N4 s.F4_0 s.F4_1 s.F4_2 s.F4_3 s.F4_4 s.F4_5 s.F4_6 s.F4_7 s.F4_8)
noncomputable def e17_0_8 (p : P17_0) (s : S17_0) : (Prop) := ∀ (i:Nat), scpL (0:Nat) ((fun (j:Nat) => ndC (gN (mdL p.xh3_0 (nds (ndf s.F4_0 s.F4_1 s.F4_2 s.F4_3 s.F4_4 s.F4_5 s.F4_6 s.F4_7 s.F4_8) s.n7_1) (e17_0_35 p s)) j)) i) = true
noncomputable def e17_0_9 (p : P17_0) (s : S17_0) : (Prop) := ((∀ (i:Nat), scpL (0:Nat) ((rw10 p.F0_0 p.F0_1 p.F0_2 p.F0_3 p.F0_4 p.F0_5 p.F0_6 p.F0_7 p.F0_8 p.F0_9) i) = true) ∧ ∀ (i:Nat), scpL (0:Nat) ((fun (j:Nat) => ndC (gN (mdL p.xh3_0 (nds (ndf s.F4_0 s.F4_1 s.F4_2 s.F4_3 s.F4_4 s.F4_5 s.F4_6 s.F4_7 s.F4_8) s.n7_1) (e17_0_35 p s)) j)) i) = true) ∧ (∀ (i:Nat), i < p.N0 → (rw10 p.F0_0 p.F0_1 p.F0_2 p.F0_3 p.F0_4 p.F0_5 p.F0_6 p.F0_7 p.F0_8 p.F0_9) i = elC (rw10 p.F0_0 p.F0_1 p.F0_2 p.F0_3 p.F0_4 p.F0_5 p.F0_6 p.F0_7 p.F0_8 p.F0_9) (0:Nat) [Ck.int IntKind.i64, Ck.int IntKind.u64, Ck.int IntKind.u64, Ck.int IntKind.i64, Ck.int IntKind.u64, Ck.int IntKind.i64, Ck.int IntKind.i64, Ck.int IntKind.i64, Ck.int IntKind.i64, Ck.int IntKind.u64] i) ∧ ∀ (i:Nat), i < e17_0_36 p s → (fun (j:Nat) => ndC (gN (mdL p.xh3_0 (nds (ndf s.F4_0 s.F4_1 s.F4_2 s.F4_3 s.F4_4 s.F4_5 s.F4_6 s.F4_7 s.F4_8) s.n7_1) (e17_0_35 p s)) j)) i = elC (fun (j:Nat) => ndC (gN (mdL p.xh3_0 (nds (ndf s.F4_0 s.F4_1 s.F4_2 s.F4_3 s.F4_4 s.F4_5 s.F4_6 s.F4_7 s.F4_8) s.n7_1) (e17_0_35 p s)) j)) (0:Nat) ck9 i
noncomputable def e17_0_10 (p : P17_0) (s : S17_0) : (Int) := IntKind.i64.wrap (s.x29 + (1:Int))
noncomputable def e17_0_11 (p : P17_0) (s : S17_0) : (Int) := (e17_0_37 p s).f
noncomputable def e17_0_12 (p : P17_0) (s : S17_0) : (Int) := (e17_0_37 p s).c
noncomputable def e17_0_13 (p : P17_0) (s : S17_0) : (Mem) := (e17_0_37 p s).M
noncomputable def e17_0_14 (p : P17_0) (s : S17_0) : (Nat) := e17_0_36 p s
noncomputable def e17_0_15 (p : P17_0) (s : S17_0) : Nat → (Int) := fun (j:Nat) => (gN (mdL p.xh3_0 (nds (ndf s.F4_0 s.F4_1 s.F4_2 s.F4_3 s.F4_4 s.F4_5 s.F4_6 s.F4_7 s.F4_8) s.n7_1) (e17_0_35 p s)) j).t
noncomputable def e17_0_16 (p : P17_0) (s : S17_0) : Nat → (Int) := fun (j:Nat) => (gN (mdL p.xh3_0 (nds (ndf s.F4_0 s.F4_1 s.F4_2 s.F4_3 s.F4_4 s.F4_5 s.F4_6 s.F4_7 s.F4_8) s.n7_1) (e17_0_35 p s)) j).k
noncomputable def e17_0_17 (p : P17_0) (s : S17_0) : Nat → (Int) := fun (j:Nat) => (gN (mdL p.xh3_0 (nds (ndf s.F4_0 s.F4_1 s.F4_2 s.F4_3 s.F4_4 s.F4_5 s.F4_6 s.F4_7 s.F4_8) s.n7_1) (e17_0_35 p s)) j).a
noncomputable def e17_0_18 (p : P17_0) (s : S17_0) : Nat → (Int) := fun (j:Nat) => (gN (mdL p.xh3_0 (nds (ndf s.F4_0 s.F4_1 s.F4_2 s.F4_3 s.F4_4 s.F4_5 s.F4_6 s.F4_7 s.F4_8) s.n7_1) (e17_0_35 p s)) j).b
noncomputable def e17_0_19 (p : P17_0) (s : S17_0) : Nat → (Int) := fun (j:Nat) => (gN (mdL p.xh3_0 (nds (ndf s.F4_0 s.F4_1 s.F4_2 s.F4_3 s.F4_4 s.F4_5 s.F4_6 s.F4_7 s.F4_8) s.n7_1) (e17_0_35 p s)) j).r
noncomputable def e17_0_20 (p : P17_0) (s : S17_0) : Nat → (Int) := fun (j:Nat) => (gN (mdL p.xh3_0 (nds (ndf s.F4_0 s.F4_1 s.F4_2 s.F4_3 s.F4_4 s.F4_5 s.F4_6 s.F4_7 s.F4_8) s.n7_1) (e17_0_35 p s)) j).g
noncomputable def e17_0_21 (p : P17_0) (s : S17_0) : Nat → (Int) := fun (j:Nat) => (gN (mdL p.xh3_0 (nds (ndf s.F4_0 s.F4_1 s.F4_2 s.F4_3 s.F4_4 s.F4_5 s.F4_6 s.F4_7 s.F4_8) s.n7_1) (e17_0_35 p s)) j).s
noncomputable def e17_0_22 (p : P17_0) (s : S17_0) : Nat → (Int) := fun (j:Nat) => (gN (mdL p.xh3_0 (nds (ndf s.F4_0 s.F4_1 s.F4_2 s.F4_3 s.F4_4 s.F4_5 s.F4_6 s.F4_7 s.F4_8) s.n7_1) (e17_0_35 p s)) j).m
noncomputable def e17_0_23 (p : P17_0) (s : S17_0) : Nat → (Int) := fun (j:Nat) => (gN (mdL p.xh3_0 (nds (ndf s.F4_0 s.F4_1 s.F4_2 s.F4_3 s.F4_4 s.F4_5 s.F4_6 s.F4_7 s.F4_8) s.n7_1) (e17_0_35 p s)) j).d
theorem n_e17_0_1 (p : P17_0) (s : S17_0) : e17_0_1 p s := by
 unfold e17_0_1
 (repeat' first | intro _ | apply And.intro) <;> first | rfl | exact absurd (by assumption) (Nat.not_lt_zero _) | exact scpL_rowSet (by rfl) (by rfl) | exact scpL_rowEl (by kernel_rfl) _ | omega | decide
theorem n_e17_0_5 (p : P17_0) (s : S17_0) : e17_0_5 p s := by
 unfold e17_0_5
 (repeat' first | intro _ | apply And.intro) <;> first | rfl | exact absurd (by assumption) (Nat.not_lt_zero _) | exact scpL_rowSet (by rfl) (by rfl) | exact scpL_rowEl (by kernel_rfl) _ | omega | decide
theorem n_e17_0_6 (p : P17_0) (s : S17_0) : e17_0_6 p s := by
 unfold e17_0_6
 (repeat' first | intro _ | apply And.intro) <;> first | rfl | exact absurd (by assumption) (Nat.not_lt_zero _) | exact scpL_rowSet (by rfl) (by rfl) | exact scpL_rowEl (by kernel_rfl) _ | omega | decide
theorem n_e17_0_8 (p : P17_0) (s : S17_0) : e17_0_8 p s := by
 unfold e17_0_8
 (repeat' first | intro _ | apply And.intro) <;> first | rfl | exact absurd (by assumption) (Nat.not_lt_zero _) | exact scpL_rowSet (by rfl) (by rfl) | exact scpL_rowEl (by kernel_rfl) _ | omega | decide
theorem n_e17_0_9 (p : P17_0) (s : S17_0) : e17_0_9 p s := by
 unfold e17_0_9
 (repeat' first | intro _ | apply And.intro) <;> first | rfl | exact absurd (by assumption) (Nat.not_lt_zero _) | exact scpL_rowSet (by rfl) (by rfl) | exact scpL_rowEl (by kernel_rfl) _ | omega | decide
noncomputable def rf17_0 (p : P17_0) (s : S17_0) : Tr (Rs th.R S17_0) := (Tr.ite (e17_0_0 p s) (Tr.need (e17_0_1 p s) (Tr.leaf (Rs.out (Ex.exit (0:Nat)) [none, some (SV.int .u64 (p.x1)), none, none, none, (some (SV.ptr (1:Nat) (0:Nat))), none, (some (SV.ptr (3:Nat) (0:Nat))), none, none, none, none, none, none, none, none, none, none, none, none, none, none, none, none, none, none, none, none, none, none, none, none, none, none, none, none, none, none, none, none, none, none, none, none, none, none, none, none, none, none, none, none, none, none, none, none, none, none, none, none, none, none, none, none, none, none, none, none, none, none, none, none, none, none, none, none, none, none, none, none, none, none, none, none, none, none, none, none, none, none, none, none, none] [(HO.ro (85:Nat) (10:Nat) (p.N0) (rw10 p.F0_0 p.F0_1 p.F0_2 p.F0_3 p.F0_4 p.F0_5 p.F0_6 p.F0_7 p.F0_8 p.F0_9) (p.O0)), (HO.cells (175:Nat) [(SV.ptr (2:Nat) (0:Nat)), SV.int .u64 (s.xh1_1), SV.int .i64 (s.xh1_2)]), HO.res (s.R2), (HO.cells (55:Nat) [SV.int .u64 (p.xh3_0), (SV.slc (4) (9:Nat) (0:Nat) (s.n7_1))]), (HO.row (100:Nat) (9:Nat) (s.N4) (rw9 s.F4_0 s.F4_1 s.F4_2 s.F4_3 s.F4_4 s.F4_5 s.F4_6 s.F4_7 s.F4_8))]))) (Tr.need (e17_0_2 p s) (Tr.need (e17_0_3 p s) (Tr.need (e17_0_4 p s) (Tr.need (e17_0_5 p s) (Tr.need (e17_0_6 p s) (Tr.need (e17_0_7 p s) (Tr.need (e17_0_8 p s) (Tr.need (e17_0_9 p s) (Tr.leaf (Rs.on (S17_0.mk ((e17_0_10 p s)) ((e17_0_11 p s)) ((e17_0_12 p s)) ((e17_0_13 p s)) ((e17_0_14 p s)) ((e17_0_14 p s)) ((fun j => (e17_0_15 p s j))) ((fun j => (e17_0_16 p s j))) ((fun j => (e17_0_17 p s j))) ((fun j => (e17_0_18 p s j))) ((fun j => (e17_0_19 p s j))) ((fun j => (e17_0_20 p s j))) ((fun j => (e17_0_21 p s j))) ((fun j => (e17_0_22 p s j))) ((fun j => (e17_0_23 p s j)))))))))))))))
noncomputable def r17_0 (p : P17_0) (s : S17_0) : Tr (Rs th.R S17_0) := (Tr.ite (e17_0_0 p s) (Tr.leaf (Rs.out (Ex.exit (0:Nat)) [none, some (SV.int .u64 (p.x1)), none, none, none, (some (SV.ptr (1:Nat) (0:Nat))), none, (some (SV.ptr (3:Nat) (0:Nat))), none, none, none, none, none, none, none, none, none, none, none, none, none, none, none, none, none, none, none, none, none, none, none, none, none, none, none, none, none, none, none, none, none, none, none, none, none, none, none, none, none, none, none, none, none, none, none, none, none, none, none, none, none, none, none, none, none, none, none, none, none, none, none, none, none, none, none, none, none, none, none, none, none, none, none, none, none, none, none, none, none, none, none, none, none] [(HO.ro (85:Nat) (10:Nat) (p.N0) (rw10 p.F0_0 p.F0_1 p.F0_2 p.F0_3 p.F0_4 p.F0_5 p.F0_6 p.F0_7 p.F0_8 p.F0_9) (p.O0)), (HO.cells (175:Nat) [(SV.ptr (2:Nat) (0:Nat)), SV.int .u64 (s.xh1_1), SV.int .i64 (s.xh1_2)]), HO.res (s.R2), (HO.cells (55:Nat) [SV.int .u64 (p.xh3_0), (SV.slc (4) (9:Nat) (0:Nat) (s.n7_1))]), (HO.row (100:Nat) (9:Nat) (s.N4) (rw9 s.F4_0 s.F4_1 s.F4_2 s.F4_3 s.F4_4 s.F4_5 s.F4_6 s.F4_7 s.F4_8))])) (Tr.need (e17_0_2 p s) (Tr.need (e17_0_3 p s) (Tr.need (e17_0_4 p s) (Tr.need (e17_0_7 p s) (Tr.leaf (Rs.on (S17_0.mk ((e17_0_10 p s)) ((e17_0_11 p s)) ((e17_0_12 p s)) ((e17_0_13 p s)) ((e17_0_14 p s)) ((e17_0_14 p s)) ((fun j => (e17_0_15 p s j))) ((fun j => (e17_0_16 p s j))) ((fun j => (e17_0_17 p s j))) ((fun j => (e17_0_18 p s j))) ((fun j => (e17_0_19 p s j))) ((fun j => (e17_0_20 p s j))) ((fun j => (e17_0_21 p s j))) ((fun j => (e17_0_22 p s j))) ((fun j => (e17_0_23 p s j)))))))))))
noncomputable def E17_0 : St th.R → Out th := evCode th Try.prog (auto th Try.prog nice17c [] 20) (autoH [] [] [] [] : Hints th) (lpAt Try.prog 17 0)
theorem B17_0 : CodeSound th Try.prog (lpAt Try.prog 17 0) E17_0 := evCode_sound (T := th) (P := Try.prog) (tbl := (auto th Try.prog nice17c [] 20)) (auto_sound (nice := nice17c) (us := []) nok17c 20) (autoH [] [] [] [] : Hints th) _ (LoopsOk_mem (fun _ => rfl) _ fun b hb L hL => by cases hL)
noncomputable def L17_0 : St th.R → Out th := loopL d17_0 ofV17_0 r17_0
theorem h1_17_0 (p : P17_0) (s : S17_0) : bld d17_0.tm (toV17_0 p s) = some (I17_0 p s) := by kernel_rfl
theorem h2_17_0 (l : List (Vl th.R)) (p : P17_0) (s : S17_0) (h : ofV17_0 l = some (p, s)) : l = toV17_0 p s := by
 unfold ofV17_0 at h
 split at h
 ·cases h; rfl
 ·cases h
theorem h3_17_0 (p : P17_0) (s : S17_0) : cvE d17_0 (E17_0 (I17_0 p s)) = some ((rf17_0 p s).map (Rs.map (toV17_0 p))) := by kernel_rfl
theorem h3g_17_0 (p : P17_0) (s : S17_0) : (rf17_0 p s).get = (r17_0 p s).get := by kernel_rfl
theorem h4_17_0 (p : P17_0) (s s1 : S17_0) : outH d17_0.dirt d17_0.n0 (r17_0 p s) = repH (maskH d17_0.dirt 0 d17_0.n0 (I17_0 p s1).heap) (r17_0 p s) := by kernel_rfl
theorem ls17_0 : CodeSound th Try.prog (.loop (lpAt Try.prog 17 0)) L17_0 := loopL_sound B17_0 d17_0 I17_0 toV17_0 (by kernel_rfl) h1_17_0 h2_17_0
 (fun p s => ⟨(rf17_0 p s).map (Rs.map (toV17_0 p)), h3_17_0 p s, fun h => by
  rw [Tr.map_ok]
  unfold r17_0 at h; unfold rf17_0
  simp only [Tr.ok, n_e17_0_1, n_e17_0_5, n_e17_0_6, n_e17_0_8, n_e17_0_9, true_and, and_true, forall_const, implies_true] at h ⊢
  try exact h, by rw [Tr.map_get, h3g_17_0 p s]⟩) h4_17_0
structure P17_1 where
 x1 : Int
 n44 : Nat
 x45 : Int
 N0 : Nat
 O0 : Obj
 F0_0 : Nat → Int
 F0_1 : Nat → Int
 F0_2 : Nat → Int
 F0_3 : Nat → Int
 F0_4 : Nat → Int
 F0_5 : Nat → Int
 F0_6 : Nat → Int
 F0_7 : Nat → Int
 F0_8 : Nat → Int
 F0_9 : Nat → Int
 xh1_1 : Int
 xh1_2 : Int
 R2 : th.R
 xh3_0 : Int
 nh3_1 : Nat
 N4 : Nat
 F4_0 : Nat → Int
 F4_1 : Nat → Int
 F4_2 : Nat → Int
 F4_3 : Nat → Int
 F4_4 : Nat → Int
 F4_5 : Nat → Int
 F4_6 : Nat → Int
 F4_7 : Nat → Int
 F4_8 : Nat → Int
structure S17_1 where
 x10 : Int
 x46 : Int
noncomputable instance : Inhabited S17_1 := ⟨⟨0, 0⟩⟩
def I17_1 (p : P17_1) (s : S17_1) : St th.R := ⟨[none, some (.int .u64 p.x1), none, none, none, some (.ptr 1 0), none, some (.ptr 3 0), none, none, some (.int .i64 s.x10), none, none, none, none, none, none, none, none, none, none, none, none, none, none, none, none, none, none, none, none, none, none, none, none, none, none, none, none, none, none, none, none, none, some (.slc 4 9 0 p.n44), some (.int .i64 p.x45), some (.int .i64 s.x46), none, none, none, none, none, none, none, none, none, none, none, none, none, none, none, none, none, none, none, none, none, none, none, none, none, none, none, none, none, none, none, none, none, none, none, none, none, none, none, none, none, none, none, none, none, none], [.ro 85 10 p.N0 (rw10 p.F0_0 p.F0_1 p.F0_2 p.F0_3 p.F0_4 p.F0_5 p.F0_6 p.F0_7 p.F0_8 p.F0_9) p.O0, .cells 175 [.ptr 2 0, .int .u64 p.xh1_1, .int .i64 p.xh1_2], .res p.R2, .cells 55 [.int .u64 p.xh3_0, .slc 4 9 0 p.nh3_1], .row 100 9 p.N4 (rw9 p.F4_0 p.F4_1 p.F4_2 p.F4_3 p.F4_4 p.F4_5 p.F4_6 p.F4_7 p.F4_8)], [], []⟩
def d17_1 : Lp := ⟨⟨93, [(1, .int .u64), (5, .ptr 1 0), (7, .ptr 3 0), (10, .int .i64), (44, .slc0 4 9), (45, .int .i64), (46, .int .i64)], [.roc 85 [.int .i64, .int .u64, .int .u64, .int .i64, .int .u64, .int .i64, .int .i64, .int .i64, .int .i64, .int .u64], .cells 175 [.ptr 2 0, .int .u64, .int .i64], .res, .cells 55 [.int .u64, .slc0 4 9], .rowc 100 [.int .u64, .int .i64, .int .u64, .int .i64, .int .i64, .int .i64, .int .i64, .int .u64, .int .i64]]⟩, [], 5, [1, 2], [1, 4, 5, 7, 10, 73, 74, 75, 76, 77, 78, 79, 80, 81, 82, 83, 84, 85, 86, 87, 88, 89, 90, 91], []⟩
def toV17_1 (p : P17_1) (s : S17_1) : List (Vl th.R) := [.i p.x1, .i s.x10, .n p.n44, .i p.x45, .i s.x46, .n p.N0, .o p.O0, .c p.F0_0, .c p.F0_1, .c p.F0_2, .c p.F0_3, .c p.F0_4, .c p.F0_5, .c p.F0_6, .c p.F0_7, .c p.F0_8, .c p.F0_9, .i p.xh1_1, .i p.xh1_2, .r p.R2, .i p.xh3_0, .n p.nh3_1, .n p.N4, .c p.F4_0, .c p.F4_1, .c p.F4_2, .c p.F4_3, .c p.F4_4, .c p.F4_5, .c p.F4_6, .c p.F4_7, .c p.F4_8]
def ofV17_1 : List (Vl th.R) → Option (P17_1 × S17_1)
 | .i x1 :: .i x10 :: .n n44 :: .i x45 :: .i x46 :: .n N0 :: .o O0 :: .c F0_0 :: .c F0_1 :: .c F0_2 :: .c F0_3 :: .c F0_4 :: .c F0_5 :: .c F0_6 :: .c F0_7 :: .c F0_8 :: .c F0_9 :: .i xh1_1 :: .i xh1_2 :: .r R2 :: .i xh3_0 :: .n nh3_1 :: .n N4 :: .c F4_0 :: .c F4_1 :: .c F4_2 :: .c F4_3 :: .c F4_4 :: .c F4_5 :: .c F4_6 :: .c F4_7 :: .c F4_8 :: [] => some (⟨x1, n44, x45, N0, O0, F0_0, F0_1, F0_2, F0_3, F0_4, F0_5, F0_6, F0_7, F0_8, F0_9, xh1_1, xh1_2, R2, xh3_0, nh3_1, N4, F4_0, F4_1, F4_2, F4_3, F4_4, F4_5, F4_6, F4_7, F4_8⟩, ⟨x10, x46⟩)
 | _ => none
noncomputable def e17_1_8 (p : P17_1) (s : S17_1) : (Nat) := (0:Nat) + s.x46.toNat
noncomputable def e17_1_0 (p : P17_1) (s : S17_1) : (Bool) := cnd (decide (s.x46 < p.x45)) false true
noncomputable def e17_1_1 (p : P17_1) (s : S17_1) : (Prop) := (∀ (i:Nat), scpL (0:Nat) ((rw10 p.F0_0 p.F0_1 p.F0_2 p.F0_3 p.F0_4 p.F0_5 p.F0_6 p.F0_7 p.F0_8 p.F0_9) i) = true) ∧ ∀ (i:Nat), scpL (0:Nat) ((rw9 p.F4_0 p.F4_1 p.F4_2 p.F4_3 p.F4_4 p.F4_5 p.F4_6 p.F4_7 p.F4_8) i) = true
noncomputable def e17_1_2 (p : P17_1) (s : S17_1) : (Prop) := (0:Int) ≤ s.x46 ∧ s.x46 < (↑p.n44:Int)
noncomputable def e17_1_3 (p : P17_1) (s : S17_1) : (Prop) := e17_1_8 p s < p.N4
noncomputable def e17_1_4 (p : P17_1) (s : S17_1) : (Prop) := pre80 (V80.mk (p.F4_0 (e17_1_8 p s)) p.xh1_1 p.xh1_2 p.R2)
noncomputable def e17_1_5 (p : P17_1) (s : S17_1) : (Int) := cnd (p.F4_8 (e17_1_8 p s) == (0:Int)) (IntKind.i64.wrap (s.x10 + (1:Int))) s.x10
noncomputable def e17_1_6 (p : P17_1) (s : S17_1) : (Prop) := ((∀ (i:Nat), scpL (0:Nat) ((rw10 p.F0_0 p.F0_1 p.F0_2 p.F0_3 p.F0_4 p.F0_5 p.F0_6 p.F0_7 p.F0_8 p.F0_9) i) = true) ∧ ∀ (i:Nat), scpL (0:Nat) ((rw9 p.F4_0 p.F4_1 p.F4_2 p.F4_3 p.F4_4 p.F4_5 p.F4_6 p.F4_7 p.F4_8) i) = true) ∧ (∀ (i:Nat), i < p.N0 → (rw10 p.F0_0 p.F0_1 p.F0_2 p.F0_3 p.F0_4 p.F0_5 p.F0_6 p.F0_7 p.F0_8 p.F0_9) i = elC (rw10 p.F0_0 p.F0_1 p.F0_2 p.F0_3 p.F0_4 p.F0_5 p.F0_6 p.F0_7 p.F0_8 p.F0_9) (0:Nat) [Ck.int IntKind.i64, Ck.int IntKind.u64, Ck.int IntKind.u64, Ck.int IntKind.i64, Ck.int IntKind.u64, Ck.int IntKind.i64, Ck.int IntKind.i64, Ck.int IntKind.i64, Ck.int IntKind.i64, Ck.int IntKind.u64] i) ∧ ∀ (i:Nat), i < p.N4 → (rw9 p.F4_0 p.F4_1 p.F4_2 p.F4_3 p.F4_4 p.F4_5 p.F4_6 p.F4_7 p.F4_8) i = elC (rw9 p.F4_0 p.F4_1 p.F4_2 p.F4_3 p.F4_4 p.F4_5 p.F4_6 p.F4_7 p.F4_8) (0:Nat) ck9 i
noncomputable def e17_1_7 (p : P17_1) (s : S17_1) : (Int) := IntKind.i64.wrap (s.x46 + (1:Int))
theorem n_e17_1_1 (p : P17_1) (s : S17_1) : e17_1_1 p s := by
 unfold e17_1_1
 (repeat' first | intro _ | apply And.intro) <;> first | rfl | exact absurd (by assumption) (Nat.not_lt_zero _) | exact scpL_rowSet (by rfl) (by rfl) | exact scpL_rowEl (by kernel_rfl) _ | omega | decide
theorem n_e17_1_6 (p : P17_1) (s : S17_1) : e17_1_6 p s := by
 unfold e17_1_6
 (repeat' first | intro _ | apply And.intro) <;> first | rfl | exact absurd (by assumption) (Nat.not_lt_zero _) | exact scpL_rowSet (by rfl) (by rfl) | exact scpL_rowEl (by kernel_rfl) _ | omega | decide
noncomputable def rf17_1 (p : P17_1) (s : S17_1) : Tr (Rs th.R S17_1) := (Tr.ite (e17_1_0 p s) (Tr.need (e17_1_1 p s) (Tr.leaf (Rs.out (Ex.exit (2:Nat)) [none, some (SV.int .u64 (p.x1)), none, none, none, (some (SV.ptr (1:Nat) (0:Nat))), none, (some (SV.ptr (3:Nat) (0:Nat))), none, none, some (SV.int .i64 (s.x10)), none, none, none, none, none, none, none, none, none, none, none, none, none, none, none, none, none, none, none, none, none, none, none, none, none, none, none, none, none, none, none, none, none, none, none, none, none, none, none, none, none, none, none, none, none, none, none, none, none, none, none, none, none, none, none, none, none, none, none, none, none, none, none, none, none, none, none, none, none, none, none, none, none, none, none, none, none, none, none, none, none, none] [(HO.ro (85:Nat) (10:Nat) (p.N0) (rw10 p.F0_0 p.F0_1 p.F0_2 p.F0_3 p.F0_4 p.F0_5 p.F0_6 p.F0_7 p.F0_8 p.F0_9) (p.O0)), (HO.cells (175:Nat) [(SV.ptr (2:Nat) (0:Nat)), SV.int .u64 (p.xh1_1), SV.int .i64 (p.xh1_2)]), HO.res (p.R2), (HO.cells (55:Nat) [SV.int .u64 (p.xh3_0), (SV.slc (4:Nat) (9:Nat) (0:Nat) (p.nh3_1))]), (HO.row (100:Nat) (9:Nat) (p.N4) (rw9 p.F4_0 p.F4_1 p.F4_2 p.F4_3 p.F4_4 p.F4_5 p.F4_6 p.F4_7 p.F4_8))]))) (Tr.need (e17_1_2 p s) (Tr.need (e17_1_3 p s) (Tr.need (e17_1_4 p s) (Tr.ite (false) (Tr.need (e17_1_1 p s) (Tr.leaf (Rs.out (Ex.ret) [none, some (SV.int .u64 (p.x1)), none, none, some (SV.bool (false)), (some (SV.ptr (1:Nat) (0:Nat))), none, (some (SV.ptr (3:Nat) (0:Nat))), none, none, some (SV.int .i64 (e17_1_5 p s)), none, none, none, none, none, none, none, none, none, none, none, none, none, none, none, none, none, none, none, none, none, none, none, none, none, none, none, none, none, none, none, none, none, none, none, none, none, none, none, none, none, none, none, none, none, none, none, none, none, none, none, none, none, none, none, none, none, none, none, none, none, none, none, none, none, none, none, none, none, none, none, none, none, none, none, none, none, none, none, none, none, none] [(HO.ro (85:Nat) (10:Nat) (p.N0) (rw10 p.F0_0 p.F0_1 p.F0_2 p.F0_3 p.F0_4 p.F0_5 p.F0_6 p.F0_7 p.F0_8 p.F0_9) (p.O0)), (HO.cells (175:Nat) [(SV.ptr (2:Nat) (0:Nat)), SV.int .u64 (p.xh1_1), SV.int .i64 (p.xh1_2)]), HO.res (p.R2), (HO.cells (55:Nat) [SV.int .u64 (p.xh3_0), (SV.slc (4:Nat) (9:Nat) (0:Nat) (p.nh3_1))]), (HO.row (100:Nat) (9:Nat) (p.N4) (rw9 p.F4_0 p.F4_1 p.F4_2 p.F4_3 p.F4_4 p.F4_5 p.F4_6 p.F4_7 p.F4_8))]))) (Tr.need (e17_1_6 p s) (Tr.leaf (Rs.on (S17_1.mk ((e17_1_5 p s)) ((e17_1_7 p s)))))))))))
noncomputable def r17_1 (p : P17_1) (s : S17_1) : Tr (Rs th.R S17_1) := (Tr.ite (e17_1_0 p s) (Tr.leaf (Rs.out (Ex.exit (2:Nat)) [none, some (SV.int .u64 (p.x1)), none, none, none, (some (SV.ptr (1:Nat) (0:Nat))), none, (some (SV.ptr (3:Nat) (0:Nat))), none, none, some (SV.int .i64 (s.x10)), none, none, none, none, none, none, none, none, none, none, none, none, none, none, none, none, none, none, none, none, none, none, none, none, none, none, none, none, none, none, none, none, none, none, none, none, none, none, none, none, none, none, none, none, none, none, none, none, none, none, none, none, none, none, none, none, none, none, none, none, none, none, none, none, none, none, none, none, none, none, none, none, none, none, none, none, none, none, none, none, none, none] [(HO.ro (85:Nat) (10:Nat) (p.N0) (rw10 p.F0_0 p.F0_1 p.F0_2 p.F0_3 p.F0_4 p.F0_5 p.F0_6 p.F0_7 p.F0_8 p.F0_9) (p.O0)), (HO.cells (175:Nat) [(SV.ptr (2:Nat) (0:Nat)), SV.int .u64 (p.xh1_1), SV.int .i64 (p.xh1_2)]), HO.res (p.R2), (HO.cells (55:Nat) [SV.int .u64 (p.xh3_0), (SV.slc (4:Nat) (9:Nat) (0:Nat) (p.nh3_1))]), (HO.row (100:Nat) (9:Nat) (p.N4) (rw9 p.F4_0 p.F4_1 p.F4_2 p.F4_3 p.F4_4 p.F4_5 p.F4_6 p.F4_7 p.F4_8))])) (Tr.need (e17_1_2 p s) (Tr.need (e17_1_3 p s) (Tr.need (e17_1_4 p s) (Tr.ite (false) (Tr.leaf (Rs.out (Ex.ret) [none, some (SV.int .u64 (p.x1)), none, none, some (SV.bool (false)), (some (SV.ptr (1:Nat) (0:Nat))), none, (some (SV.ptr (3:Nat) (0:Nat))), none, none, some (SV.int .i64 (e17_1_5 p s)), none, none, none, none, none, none, none, none, none, none, none, none, none, none, none, none, none, none, none, none, none, none, none, none, none, none, none, none, none, none, none, none, none, none, none, none, none, none, none, none, none, none, none, none, none, none, none, none, none, none, none, none, none, none, none, none, none, none, none, none, none, none, none, none, none, none, none, none, none, none, none, none, none, none, none, none, none, none, none, none, none, none] [(HO.ro (85:Nat) (10:Nat) (p.N0) (rw10 p.F0_0 p.F0_1 p.F0_2 p.F0_3 p.F0_4 p.F0_5 p.F0_6 p.F0_7 p.F0_8 p.F0_9) (p.O0)), (HO.cells (175:Nat) [(SV.ptr (2:Nat) (0:Nat)), SV.int .u64 (p.xh1_1), SV.int .i64 (p.xh1_2)]), HO.res (p.R2), (HO.cells (55:Nat) [SV.int .u64 (p.xh3_0), (SV.slc (4:Nat) (9:Nat) (0:Nat) (p.nh3_1))]), (HO.row (100:Nat) (9:Nat) (p.N4) (rw9 p.F4_0 p.F4_1 p.F4_2 p.F4_3 p.F4_4 p.F4_5 p.F4_6 p.F4_7 p.F4_8))])) (Tr.leaf (Rs.on (S17_1.mk ((e17_1_5 p s)) ((e17_1_7 p s))))))))))
noncomputable def E17_1 : St th.R → Out th := evCode th Try.prog (auto th Try.prog nice17c [] 20) (autoH [] [] [] [] : Hints th) (lpAt Try.prog 17 1)
theorem B17_1 : CodeSound th Try.prog (lpAt Try.prog 17 1) E17_1 := evCode_sound (T := th) (P := Try.prog) (tbl := (auto th Try.prog nice17c [] 20)) (auto_sound (nice := nice17c) (us := []) nok17c 20) (autoH [] [] [] [] : Hints th) _ (LoopsOk_mem (fun _ => rfl) _ fun b hb L hL => by cases hL)
noncomputable def L17_1 : St th.R → Out th := loopL d17_1 ofV17_1 r17_1
theorem h1_17_1 (p : P17_1) (s : S17_1) : bld d17_1.tm (toV17_1 p s) = some (I17_1 p s) := by kernel_rfl
theorem h2_17_1 (l : List (Vl th.R)) (p : P17_1) (s : S17_1) (h : ofV17_1 l = some (p, s)) : l = toV17_1 p s := by
 unfold ofV17_1 at h
 split at h
 ·cases h; rfl
 ·cases h
theorem h3_17_1 (p : P17_1) (s : S17_1) : cvE d17_1 (E17_1 (I17_1 p s)) = some ((rf17_1 p s).map (Rs.map (toV17_1 p))) := by kernel_rfl
theorem h3g_17_1 (p : P17_1) (s : S17_1) : (rf17_1 p s).get = (r17_1 p s).get := by kernel_rfl
theorem h4_17_1 (p : P17_1) (s s1 : S17_1) : outH d17_1.dirt d17_1.n0 (r17_1 p s) = repH (maskH d17_1.dirt 0 d17_1.n0 (I17_1 p s1).heap) (r17_1 p s) := by kernel_rfl
theorem ls17_1 : CodeSound th Try.prog (.loop (lpAt Try.prog 17 1)) L17_1 := loopL_sound B17_1 d17_1 I17_1 toV17_1 (by kernel_rfl) h1_17_1 h2_17_1
 (fun p s => ⟨(rf17_1 p s).map (Rs.map (toV17_1 p)), h3_17_1 p s, fun h => by
  rw [Tr.map_ok]
  unfold r17_1 at h; unfold rf17_1
  simp only [Tr.ok, n_e17_1_1, n_e17_1_6, true_and, and_true, forall_const, implies_true] at h ⊢
  try exact h, by rw [Tr.map_get, h3g_17_1 p s]⟩) h4_17_1
theorem ok17 : LoopsOk th Try.prog (autoH [(9, L17_0), (16, L17_1)] [] [] [] : Hints th) (bodyOf Try.prog 17) := autoH_ok (bs := [lpAt Try.prog 17 0, lpAt Try.prog 17 1]) (by kernel_rfl) fun b hb L hL => by
 simp only [List.mem_cons, List.not_mem_nil, or_false] at hb
 rcases hb with rfl | rfl
 ·have e : lookL [(9, L17_0), (16, L17_1)] (firstReg (lpAt Try.prog 17 0)) = some L17_0 := by kernel_rfl
  rw [e] at hL; cases hL
  exact ls17_0
 ·have e : lookL [(9, L17_0), (16, L17_1)] (firstReg (lpAt Try.prog 17 1)) = some L17_1 := by kernel_rfl
  rw [e] at hL; cases hL
  exact ls17_1
noncomputable def f17_12 (v : V17) : (Bool) := decide ((↑v.L:Int) > (60:Int))
noncomputable def f17_13 (v : V17) : (S17_0) := lastS (r17_0 (P17_0.mk v.x v.L (↑v.L:Int) v.Q v.ob_ v.ok v.oa v.ob v.kc v.ac v.bc v.rc v.gc v.sc v.mc (65536:Int))) (S17_0.mk (0:Int) (0:Int) (0:Int) op0.fst.M (0:Nat) (0:Nat) (colI (fun (j:Nat) => []) (0:Nat)) (colI (fun (j:Nat) => []) (1:Nat)) (colI (fun (j:Nat) => []) (2:Nat)) (colI (fun (j:Nat) => []) (3:Nat)) (colI (fun (j:Nat) => []) (4:Nat)) (colI (fun (j:Nat) => []) (5:Nat)) (colI (fun (j:Nat) => []) (6:Nat)) (colI (fun (j:Nat) => []) (7:Nat)) (colI (fun (j:Nat) => []) (8:Nat)))
noncomputable def f17_14 (v : V17) : (Nat) := (f17_13 v).N4
noncomputable def f17_15 (v : V17) : (Nat) := (f17_13 v).n7_1
noncomputable def f17_16 (v : V17) : (Int) := (f17_13 v).xh1_1
noncomputable def f17_17 (v : V17) : (Int) := (f17_13 v).xh1_2
noncomputable def f17_18 (v : V17) : (th.R) := (f17_13 v).R2
noncomputable def f17_19 (v : V17) : (P17_1) := P17_1.mk v.x (f17_15 v) (↑(f17_15 v):Int) v.Q v.ob_ v.ok v.oa v.ob v.kc v.ac v.bc v.rc v.gc v.sc v.mc (f17_16 v) (f17_17 v) (f17_18 v) (65536:Int) (f17_15 v) (f17_14 v) (f17_13 v).F4_0 (f17_13 v).F4_1 (f17_13 v).F4_2 (f17_13 v).F4_3 (f17_13 v).F4_4 (f17_13 v).F4_5 (f17_13 v).F4_6 (f17_13 v).F4_7 (f17_13 v).F4_8
noncomputable def f17_20 (v : V17) : (S17_1) := lastS (r17_1 (f17_19 v)) (S17_1.mk (0:Int) (0:Int))
noncomputable def f17_21 (v : V17) : (Bool) := cnd (e17_1_0 (f17_19 v) (f17_20 v)) false true
noncomputable def f17_22 (v : V17) : (Int) := fnd (nds (ndf (f17_13 v).F4_0 (f17_13 v).F4_1 (f17_13 v).F4_2 (f17_13 v).F4_3 (f17_13 v).F4_4 (f17_13 v).F4_5 (f17_13 v).F4_6 (f17_13 v).F4_7 (f17_13 v).F4_8) (f17_15 v)) v.x
noncomputable def f17_23 (v : V17) : (Bool) := decide (f17_22 v ≥ (0:Int))
noncomputable def f17_0 (v : V17) : (Prop) := pre52 V52.mk
noncomputable def f17_1 (v : V17) : (Prop) := false = false → f17_12 v = false → pre53 V53.mk
noncomputable def f17_2 (v : V17) : (Prop) := false = false → f17_12 v = false → false = false → (∀ (i:Nat), i < v.Q → (rw10 v.ok v.oa v.ob v.kc v.ac v.bc v.rc v.gc v.sc v.mc) i = elC (rw10 v.ok v.oa v.ob v.kc v.ac v.bc v.rc v.gc v.sc v.mc) (0:Nat) [Ck.int IntKind.i64, Ck.int IntKind.u64, Ck.int IntKind.u64, Ck.int IntKind.i64, Ck.int IntKind.u64, Ck.int IntKind.i64, Ck.int IntKind.i64, Ck.int IntKind.i64, Ck.int IntKind.i64, Ck.int IntKind.u64] i) ∧ ∀ (i:Nat), i < (0:Nat) → (fun (j:Nat) => []) i = elC (fun (j:Nat) => []) (0:Nat) ck9 i
noncomputable def f17_3 (v : V17) : (Prop) := false = false → f17_12 v = false → false = false → LT (r17_0 (P17_0.mk v.x v.L (↑v.L:Int) v.Q v.ob_ v.ok v.oa v.ob v.kc v.ac v.bc v.rc v.gc v.sc v.mc (65536:Int))) (S17_0.mk (0:Int) (0:Int) (0:Int) op0.fst.M (0:Nat) (0:Nat) (colI (fun (j:Nat) => []) (0:Nat)) (colI (fun (j:Nat) => []) (1:Nat)) (colI (fun (j:Nat) => []) (2:Nat)) (colI (fun (j:Nat) => []) (3:Nat)) (colI (fun (j:Nat) => []) (4:Nat)) (colI (fun (j:Nat) => []) (5:Nat)) (colI (fun (j:Nat) => []) (6:Nat)) (colI (fun (j:Nat) => []) (7:Nat)) (colI (fun (j:Nat) => []) (8:Nat)))
noncomputable def f17_4 (v : V17) : (Prop) := false = false → f17_12 v = false → false = false → (∀ (i:Nat), i < v.Q → (rw10 v.ok v.oa v.ob v.kc v.ac v.bc v.rc v.gc v.sc v.mc) i = elC (rw10 v.ok v.oa v.ob v.kc v.ac v.bc v.rc v.gc v.sc v.mc) (0:Nat) [Ck.int IntKind.i64, Ck.int IntKind.u64, Ck.int IntKind.u64, Ck.int IntKind.i64, Ck.int IntKind.u64, Ck.int IntKind.i64, Ck.int IntKind.i64, Ck.int IntKind.i64, Ck.int IntKind.i64, Ck.int IntKind.u64] i) ∧ ∀ (i:Nat), i < f17_14 v → (fun (j:Nat) => [SV.int IntKind.u64 ((f17_13 v).F4_0 j), SV.int IntKind.i64 ((f17_13 v).F4_1 j), SV.int IntKind.u64 ((f17_13 v).F4_2 j), SV.int IntKind.i64 ((f17_13 v).F4_3 j), SV.int IntKind.i64 ((f17_13 v).F4_4 j), SV.int IntKind.i64 ((f17_13 v).F4_5 j), SV.int IntKind.i64 ((f17_13 v).F4_6 j), SV.int IntKind.u64 ((f17_13 v).F4_7 j), SV.int IntKind.i64 ((f17_13 v).F4_8 j)]) i = elC (fun (j:Nat) => [SV.int IntKind.u64 ((f17_13 v).F4_0 j), SV.int IntKind.i64 ((f17_13 v).F4_1 j), SV.int IntKind.u64 ((f17_13 v).F4_2 j), SV.int IntKind.i64 ((f17_13 v).F4_3 j), SV.int IntKind.i64 ((f17_13 v).F4_4 j), SV.int IntKind.i64 ((f17_13 v).F4_5 j), SV.int IntKind.i64 ((f17_13 v).F4_6 j), SV.int IntKind.u64 ((f17_13 v).F4_7 j), SV.int IntKind.i64 ((f17_13 v).F4_8 j)]) (0:Nat) ck9 i
noncomputable def f17_5 (v : V17) : (Prop) := false = false → f17_12 v = false → false = false → LT (r17_1 (f17_19 v)) (S17_1.mk (0:Int) (0:Int))
noncomputable def f17_6 (v : V17) : (Prop) := false = false → f17_12 v = false → false = false → f17_21 v = false → pre81 (V81.mk v.x (f17_16 v) (f17_17 v) (f17_18 v))
noncomputable def f17_7 (v : V17) : (Prop) := false = false → f17_12 v = false → false = false → f17_21 v = false → pre82 (V82.mk (f17_16 v) (f17_17 v) (f17_18 v))
noncomputable def f17_8 (v : V17) : (Prop) := false = false → f17_12 v = false → false = false → f17_21 v = false → ∀ (i:Nat), scpL (0:Nat) ((fun (j:Nat) => [SV.int IntKind.u64 ((List.filter (fun (a:Int) => dpE (f17_18 v) a == (0:Int)) (chF (f17_18 v) (f17_17 v).toNat (f17_16 v))).getD j (0:Int))]) i) = true
noncomputable def f17_9 (v : V17) : (Prop) := false = false → f17_12 v = false → false = false → f17_21 v = false → cnd ((↑(List.filter (fun (a:Int) => dpE (f17_18 v) a == (0:Int)) (chF (f17_18 v) (f17_17 v).toNat (f17_16 v))).length:Int) == (f17_20 v).x10) true false = true → (∀ (i:Nat), scpL (0:Nat) ((fun (j:Nat) => [SV.int IntKind.u64 ((f17_13 v).F4_0 j), SV.int IntKind.i64 ((f17_13 v).F4_1 j), SV.int IntKind.u64 ((f17_13 v).F4_2 j), SV.int IntKind.i64 ((f17_13 v).F4_3 j), SV.int IntKind.i64 ((f17_13 v).F4_4 j), SV.int IntKind.i64 ((f17_13 v).F4_5 j), SV.int IntKind.i64 ((f17_13 v).F4_6 j), SV.int IntKind.u64 ((f17_13 v).F4_7 j), SV.int IntKind.i64 ((f17_13 v).F4_8 j)]) i) = true) ∧ (∀ (i:Nat), i < f17_14 v → (fun (j:Nat) => [SV.int IntKind.u64 ((f17_13 v).F4_0 j), SV.int IntKind.i64 ((f17_13 v).F4_1 j), SV.int IntKind.u64 ((f17_13 v).F4_2 j), SV.int IntKind.i64 ((f17_13 v).F4_3 j), SV.int IntKind.i64 ((f17_13 v).F4_4 j), SV.int IntKind.i64 ((f17_13 v).F4_5 j), SV.int IntKind.i64 ((f17_13 v).F4_6 j), SV.int IntKind.u64 ((f17_13 v).F4_7 j), SV.int IntKind.i64 ((f17_13 v).F4_8 j)]) i = elC (fun (j:Nat) => [SV.int IntKind.u64 ((f17_13 v).F4_0 j), SV.int IntKind.i64 ((f17_13 v).F4_1 j), SV.int IntKind.u64 ((f17_13 v).F4_2 j), SV.int IntKind.i64 ((f17_13 v).F4_3 j), SV.int IntKind.i64 ((f17_13 v).F4_4 j), SV.int IntKind.i64 ((f17_13 v).F4_5 j), SV.int IntKind.i64 ((f17_13 v).F4_6 j), SV.int IntKind.u64 ((f17_13 v).F4_7 j), SV.int IntKind.i64 ((f17_13 v).F4_8 j)]) (0:Nat) ck9 i) ∧ pre69 (V69.mk (65536:Int) (f17_15 v) v.x (f17_14 v) (f17_13 v).F4_0 (f17_13 v).F4_1 (f17_13 v).F4_2 (f17_13 v).F4_3 (f17_13 v).F4_4 (f17_13 v).F4_5 (f17_13 v).F4_6 (f17_13 v).F4_7 (f17_13 v).F4_8) ∧ ∀ (i:Nat), scpL (0:Nat) ((fun (j:Nat) => [SV.int IntKind.u64 ((f17_13 v).F4_0 j), SV.int IntKind.i64 ((f17_13 v).F4_1 j), SV.int IntKind.u64 ((f17_13 v).F4_2 j), SV.int IntKind.i64 ((f17_13 v).F4_3 j), SV.int IntKind.i64 ((f17_13 v).F4_4 j), SV.int IntKind.i64 ((f17_13 v).F4_5 j), SV.int IntKind.i64 ((f17_13 v).F4_6 j), SV.int IntKind.u64 ((f17_13 v).F4_7 j), SV.int IntKind.i64 ((f17_13 v).F4_8 j)]) i) = true
noncomputable def f17_10 (v : V17) : (Prop) := false = false → f17_12 v = false → false = false → f17_21 v = false → cnd ((↑(List.filter (fun (a:Int) => dpE (f17_18 v) a == (0:Int)) (chF (f17_18 v) (f17_17 v).toNat (f17_16 v))).length:Int) == (f17_20 v).x10) (cnd (!f17_23 v) (cnd (cnd (!(paW (f17_18 v) (f17_17 v) v.x).snd) ((paW (f17_18 v) (f17_17 v) v.x).fst == (0:Int)) false) true false) false) false = true → pre83 (V83.mk v.x (f17_16 v) (f17_17 v) (f17_18 v)) ∧ ∀ (i:Nat), scpL (0:Nat) ((fun (j:Nat) => [SV.int IntKind.u64 ((abF (f17_18 v) (f17_17 v) (f17_17 v + (1:Int)).toNat v.x).getD j (0:Int))]) i) = true
noncomputable def f17_11 (v : V17) : (Bool) := cnd (f17_12 v) true (cnd (f17_21 v) false (cnd ((↑(List.filter (fun (a:Int) => dpE (f17_18 v) a == (0:Int)) (chF (f17_18 v) (f17_17 v).toNat (f17_16 v))).length:Int) == (f17_20 v).x10) (cnd (f17_23 v) true (cnd (cnd (!(paW (f17_18 v) (f17_17 v) v.x).snd) ((paW (f17_18 v) (f17_17 v) v.x).fst == (0:Int)) false) ((↑(abF (f17_18 v) (f17_17 v) (f17_17 v + (1:Int)).toNat v.x).length:Int) == (0:Int)) false)) false))
theorem n_f17_2 (v : V17) : f17_2 v := by
 unfold f17_2
 (repeat' first | intro _ | apply And.intro) <;> first | rfl | exact absurd (by assumption) (Nat.not_lt_zero _) | exact scpL_rowSet (by rfl) (by rfl) | exact scpL_rowEl (by kernel_rfl) _ | omega | decide
theorem n_f17_4 (v : V17) : f17_4 v := by
 unfold f17_4
 (repeat' first | intro _ | apply And.intro) <;> first | rfl | exact absurd (by assumption) (Nat.not_lt_zero _) | exact scpL_rowSet (by rfl) (by rfl) | exact scpL_rowEl (by kernel_rfl) _ | omega | decide
theorem n_f17_8 (v : V17) : f17_8 v := by
 unfold f17_8
 (repeat' first | intro _ | apply And.intro) <;> first | rfl | exact absurd (by assumption) (Nat.not_lt_zero _) | exact scpL_rowSet (by rfl) (by rfl) | exact scpL_rowEl (by kernel_rfl) _ | omega | decide
noncomputable def ff17 (v : V17) : Tr (Fin th.R) := (Tr.need (f17_0 v) (Tr.need (f17_1 v) (Tr.need (f17_2 v) (Tr.need (f17_3 v) (Tr.need (f17_4 v) (Tr.need (f17_5 v) (Tr.need (f17_6 v) (Tr.need (f17_7 v) (Tr.need (f17_8 v) (Tr.need (f17_9 v) (Tr.need (f17_10 v) (Tr.leaf (SV.bool (f17_11 v), [(HO.ro (85:Nat) (10:Nat) (v.Q) (rw10 v.ok v.oa v.ob v.kc v.ac v.bc v.rc v.gc v.sc v.mc) (v.ob_))], List.nil)))))))))))))
noncomputable def f17 (v : V17) : Tr (Fin th.R) := (Tr.need (f17_0 v) (Tr.need (f17_1 v) (Tr.need (f17_3 v) (Tr.need (f17_5 v) (Tr.need (f17_6 v) (Tr.need (f17_7 v) (Tr.need (f17_9 v) (Tr.need (f17_10 v) (Tr.leaf (SV.bool (f17_11 v), [(HO.ro (85:Nat) (10:Nat) (v.Q) (fun j => [SV.int .i64 (v.ok j), SV.int .u64 (v.oa j), SV.int .u64 (v.ob j), SV.int .i64 (v.kc j), SV.int .u64 (v.ac j), SV.int .i64 (v.bc j), SV.int .i64 (v.rc j), SV.int .i64 (v.gc j), SV.int .i64 (v.sc j), SV.int .u64 (v.mc j)]) (v.ob_))], []))))))))))
noncomputable def C17 : CF th.R := fnC d17 ofV17 (f17 )
theorem q17 (v : V17) : (evFn th Try.prog (auto th Try.prog nice17c [] 20) (autoH [(9, L17_0), (16, L17_1)] [] [] [] : Hints th) 17) (A17 v) (H17 v) = some (ff17 v) := by kernel_rfl
theorem qg17 (v : V17) : ((ff17 v).map (setD [])).get = (f17 v).get := by kernel_rfl
theorem qd17 (v : V17) : allD 1 [] (ff17 v) = true := by kernel_rfl
theorem s17 : Sound Try.prog th 17 (C17 ) := fnC_sound (evFn_sound' (T := th) (P := Try.prog) (tbl := (auto th Try.prog nice17c [] 20)) (auto_sound (nice := nice17c) (us := []) nok17c 20) (H := (autoH [(9, L17_0), (16, L17_1)] [] [] [] : Hints th)) (k := 17) (fnLoops ok17)) d17 A17 H17 toV17 (by kernel_rfl) (fun v => by kernel_rfl)
 (fun l v h => by
  unfold ofV17 at h
  split at h
  ·cases h; rfl
  ·cases h)
 [] (fun v => ⟨ff17 v, q17 v, fun h => by
  unfold f17 at h; unfold ff17
  simp only [Tr.ok, n_f17_2, n_f17_4, n_f17_8, true_and, and_true, forall_const, implies_true] at h ⊢
  try exact h, qg17 v, qd17 v⟩)
theorem qdd17 (v : V17) : (f17 v).get.2.2 = [] := by
 rw [← qg17, Tr.map_get]; rfl
set_option maxRecDepth 100000
def Lq17 (s : S17_0) : List Nd := nds (ndf s.F4_0 s.F4_1 s.F4_2 s.F4_3 s.F4_4 s.F4_5 s.F4_6 s.F4_7 s.F4_8) s.n7_1
def Q17 (p : P17_0) (s : S17_0) : Prop := s.N4 = s.n7_1 ∧ s.n7_1 ≤ 60 ∧ (∃ σ, RepS ⟨s.R2, s.xh1_1, s.xh1_2⟩ (Lq17 s) σ) ∧ Stp (Lq17 s) ∧ s.R2.size = 65536 ∧ TR ⟨s.R2, s.xh1_1, s.xh1_2⟩
theorem l17_0 {p : P17_0} {s : S17_0} (hp : p.x28 = p.n27 ∧ p.N0 = p.n27 ∧ p.n27 ≤ 60 ∧ p.xh3_0 = 65536)
  (ho : ∀ j, j < p.n27 → (Op.mk (p.F0_0 j) (p.F0_1 j) (p.F0_2 j) (Sl.mk (p.F0_3 j) (p.F0_4 j) (p.F0_5 j) (p.F0_6 j) (p.F0_7 j) (p.F0_8 j) (p.F0_9 j) 0 0 0)).R)
  (hs : s.x29 = 0 ∧ s.N4 = s.n7_1 ∧ s.n7_1 = 0) (hr : ∃ σ, RepS ⟨s.R2, s.xh1_1, s.xh1_2⟩ (Lq17 s) σ) (hst : Stp (Lq17 s)) (hz : s.R2.size = 65536) (ht : TR ⟨s.R2, s.xh1_1, s.xh1_2⟩) :
  LT (r17_0 p) s ∧ Q17 p (lastS (r17_0 p) s) := by
 obtain ⟨h31, hN, h60, hz3⟩ := hp
 refine LT.post (fun s : S17_0 => ∃ k : Nat, s.x29 = k ∧ k ≤ p.n27 ∧ s.N4 = s.n7_1 ∧ s.n7_1 ≤ k ∧ (∃ σ, RepS ⟨s.R2, s.xh1_1, s.xh1_2⟩ (Lq17 s) σ) ∧ s.R2.size = 65536 ∧ TR ⟨s.R2, s.xh1_1, s.xh1_2⟩ ∧ Stp (Lq17 s)) (Q17 p) (fun s : S17_0 => (p.n27 - s.x29).toNat) ?_ ⟨0, hs.1, Nat.zero_le _, hs.2.1, by omega, hr, hz, ht, hst⟩
 rintro s ⟨k, g1, g2, g3, g4, ⟨σ, g5⟩, g6, g7, g8⟩
 have w2 : IntKind.i64.wrap (s.x29 + 1) = ((k + 1:Nat):Int) := by rw [g1, wi (by omega) (by omega)]; omega
 have e27 : e17_0_24 p s = k := by show 0 + s.x29.toNat = k; omega
 by_cases hc : k < p.n27
 ·have hd : e17_0_0 p s = false := by
   show cnd (decide (s.x29 < p.x28)) false true = false
   rw [g1, h31, decide_eq_true (by omega)]; rfl
  have hop : (e17_0_35 p s).R := by
   have := ho k hc
   rw [← e27] at this
   exact this
  have hll : (Lq17 s).length ≤ 100000 := by unfold Lq17; rw [nds_len]; omega
  obtain ⟨q1, ⟨τ, q2⟩, q3⟩ := g5.step hll hop
  have q5 := Stp.step g5 hop g8
  have hzz : s.R2.size = p.xh3_0 := by rw [hz3, g6]
  have q2 : RepS (dnT ⟨s.R2, s.xh1_1, s.xh1_2⟩ (e17_0_35 p s)) (mdL s.R2.size (Lq17 s) (e17_0_35 p s)) τ := q2
  have q5 : Stp (mdL s.R2.size (Lq17 s) (e17_0_35 p s)) := q5
  rw [hzz] at q2 q5
  have hlen : (mdL p.xh3_0 (Lq17 s) (e17_0_35 p s)).length ≤ k + 1 := by
   have := mdL_len p.xh3_0 (Lq17 s) (e17_0_35 p s)
   have h2 : (Lq17 s).length = s.n7_1 := nds_len _ _
   omega
  have tr2 := dnT_R g7 hop
  have hcc : s.xh1_2 ≤ 100000 := by
   have h1 : s.xh1_2 = (Lq17 s).length := g5.c
   omega
  have hl2 := ndf_gN (mdL p.xh3_0 (Lq17 s) (e17_0_35 p s))
  have q4 : (∃ τ, RepS (dnT ⟨s.R2, s.xh1_1, s.xh1_2⟩ (e17_0_35 p s)) (nds (ndf (e17_0_15 p s) (e17_0_16 p s) (e17_0_17 p s) (e17_0_18 p s) (e17_0_19 p s) (e17_0_20 p s) (e17_0_21 p s) (e17_0_22 p s) (e17_0_23 p s)) (mdL p.xh3_0 (Lq17 s) (e17_0_35 p s)).length) τ) ∧ Stp (nds (ndf (e17_0_15 p s) (e17_0_16 p s) (e17_0_17 p s) (e17_0_18 p s) (e17_0_19 p s) (e17_0_20 p s) (e17_0_21 p s) (e17_0_22 p s) (e17_0_23 p s)) (mdL p.xh3_0 (Lq17 s) (e17_0_35 p s)).length) := by
   have hl3 : nds (ndf (e17_0_15 p s) (e17_0_16 p s) (e17_0_17 p s) (e17_0_18 p s) (e17_0_19 p s) (e17_0_20 p s) (e17_0_21 p s) (e17_0_22 p s) (e17_0_23 p s)) (mdL p.xh3_0 (Lq17 s) (e17_0_35 p s)).length = mdL p.xh3_0 (Lq17 s) (e17_0_35 p s) := hl2
   rw [hl3]
   exact ⟨⟨τ, q2⟩, q5⟩
  simp only [r17_0, hd, Tr.ok, Tr.get]
  refine ⟨⟨(fun e => by cases e), fun _ => ⟨⟨by omega, by omega⟩, by show e17_0_24 p s < p.N0; rw [e27, hN]; exact hc, ⟨g7, hcc, hop⟩, ⟨g3, by show s.n7_1 ≤ 100000; omega⟩, trivial⟩⟩, .inr ⟨_, rfl, ⟨k + 1, w2, hc, rfl, hlen, q4.1, q3.trans g6, tr2, q4.2⟩, ?_⟩⟩
  show ((p.n27:Int) - e17_0_10 p s).toNat < ((p.n27:Int) - s.x29).toNat
  simp only [e17_0_10, w2]
  omega
 ·have hd : e17_0_0 p s = true := by
   show cnd (decide (s.x29 < p.x28)) false true = true
   rw [g1, h31, decide_eq_false (by omega)]; rfl
  refine ⟨?_, .inl ⟨?_, g3, by omega, ⟨σ, g5⟩, g8, g6, g7⟩⟩
  ·simp only [r17_0, hd, Tr.ok]
   exact ⟨fun _ => trivial, (fun e => by cases e)⟩
  ·simp only [r17_0, hd, Tr.get]
   exact ⟨_, _, _, rfl⟩
def f17N (p : P17_1) : Nat → Nd := ndf p.F4_0 p.F4_1 p.F4_2 p.F4_3 p.F4_4 p.F4_5 p.F4_6 p.F4_7 p.F4_8
theorem rtN_succ (f : Nat → Nd) (k:Nat) : ((rtN (nds f (k + 1))).length:Int) = (rtN (nds f k)).length + (if (f k).d = 0 then 1 else 0) := by
 have e : nds f (k + 1) = nds f k ++ [f k] := by simp [nds, List.range_succ]
 unfold rtN
 rw [e, List.filter_append, List.length_append]
 by_cases h : (f k).d = 0
 ·simp [h]
 ·simp [h]
theorem rtN_le (l : List Nd) : (rtN l).length ≤ l.length := List.length_filter_le _ _
theorem l17_1 {p : P17_1} {s : S17_1} (hp : p.x45 = p.n44 ∧ p.n44 = p.nh3_1 ∧ p.N4 = p.nh3_1 ∧ p.nh3_1 ≤ 60) {σ : Int → Sl} (hr : RepS ⟨p.R2, p.xh1_1, p.xh1_2⟩ (nds (f17N p) p.nh3_1) σ) (hst : Stp (nds (f17N p) p.nh3_1)) (ht : TR ⟨p.R2, p.xh1_1, p.xh1_2⟩) (hs : s.x46 = 0 ∧ s.x10 = 0) :
  LT (r17_1 p) s ∧ (e17_1_0 p (lastS (r17_1 p) s) = true ∧ (lastS (r17_1 p) s).x10 = (rtN (nds (f17N p) p.nh3_1)).length) := by
 obtain ⟨h56, h55, hN, h60⟩ := hp
 refine LT.post (fun s : S17_1 => ∃ k : Nat, s.x46 = k ∧ k ≤ p.nh3_1 ∧ s.x10 = (rtN (nds (f17N p) k)).length) (fun s : S17_1 => e17_1_0 p s = true ∧ s.x10 = (rtN (nds (f17N p) p.nh3_1)).length) (fun s : S17_1 => (p.nh3_1 - s.x46).toNat) ?_ ⟨0, hs.1, Nat.zero_le _, hs.2⟩
 rintro s ⟨k, g1, g2, g3⟩
 have w2 : IntKind.i64.wrap (s.x46 + 1) = ((k + 1:Nat):Int) := by rw [g1, wi (by omega) (by omega)]; omega
 have e17 : e17_1_8 p s = k := by show 0 + s.x46.toNat = k; omega
 have hL : (nds (f17N p) p.nh3_1).length = p.nh3_1 := nds_len _ _
 by_cases hc : k < p.nh3_1
 ·have hd : e17_1_0 p s = false := by
   show cnd (decide (s.x46 < p.x45)) false true = false
   rw [g1, h56, decide_eq_true (by omega)]; rfl
  have hm : f17N p k ∈ nds (f17N p) p.nh3_1 := by
   unfold nds
   exact List.mem_map.2 ⟨k, List.mem_range.2 hc, rfl⟩
  obtain ⟨_, _, _, t4, _⟩ := hr.tells hm
  have hcc : p.xh1_2 ≤ 100000 := by
   have h1 : p.xh1_2 = (nds (f17N p) p.nh3_1).length := hr.c
   omega
  have p80 : e17_1_4 p s := by
   unfold e17_1_4
   rw [e17]
   exact ⟨t4, ht, hcc, _, σ, hr, hst, mem_tA.2 ⟨_, hm, rfl⟩⟩
  have hle := rtN_le (nds (f17N p) k)
  rw [nds_len] at hle
  have e5 : e17_1_5 p s = (rtN (nds (f17N p) (k + 1))).length := by
   unfold e17_1_5
   rw [e17, rtN_succ, g3, wi (by omega) (by omega)]
   show cnd ((f17N p k).d == 0) _ _ = _
   by_cases h0 : (f17N p k).d = 0
   ·rw [h0]; rfl
   ·rw [beq_eq_false_iff_ne.2 h0, if_neg h0]
    show ((rtN (nds (f17N p) k)).length:Int) = _
    omega
  simp only [r17_1, hd, Tr.ok, Tr.get]
  refine ⟨⟨(fun e => by cases e), fun _ => ⟨⟨by omega, by omega⟩, by show e17_1_8 p s < p.N4; rw [e17, hN]; exact hc, p80, (fun e => by cases e), fun _ => trivial⟩⟩, .inr ⟨_, rfl, ⟨k + 1, w2, hc, e5⟩, ?_⟩⟩
  show ((p.nh3_1:Int) - e17_1_7 p s).toNat < ((p.nh3_1:Int) - s.x46).toNat
  simp only [e17_1_7, w2]
  omega
 ·have hd : e17_1_0 p s = true := by
   show cnd (decide (s.x46 < p.x45)) false true = true
   rw [g1, h56, decide_eq_false (by omega)]; rfl
  have : k = p.nh3_1 := by omega
  subst this
  refine ⟨?_, .inl ⟨?_, hd, g3⟩⟩
  ·simp only [r17_1, hd, Tr.ok]
   exact ⟨fun _ => trivial, (fun e => by cases e)⟩
  ·simp only [r17_1, hd, Tr.get]
   exact ⟨_, _, _, rfl⟩
theorem law17_true (v : V17) (hQ : v.Q = v.L) (ho : ∀ j, j < v.L → (Op.mk (v.ok j) (v.oa j) (v.ob j) (Sl.mk (v.kc j) (v.ac j) (v.bc j) (v.rc j) (v.gc j) (v.sc j) (v.mc j) 0 0 0)).R) (hx : U64 v.x) : (f17 v).ok ∧ f17_11 v = true := by
 by_cases h15 : f17_12 v = true
 ·have w : ∀ {P : Prop}, f17_12 v = false → P := fun h => by rw [h15] at h; cases h
  refine ⟨⟨trivial, fun _ h => w h, fun _ h => w h, fun _ h => w h, fun _ h => w h, fun _ h => w h, fun _ h => w h, fun _ h => w h, trivial⟩, ?_⟩
  unfold f17_11; rw [h15]; rfl
 ·have h60 : v.L ≤ 60 := by
   unfold f17_12 at h15
   simp only [decide_eq_true_eq] at h15
   omega
  have h15 : f17_12 v = false := by simpa using h15
  have m0 : LT (r17_0 (P17_0.mk v.x v.L v.L v.Q v.ob_ v.ok v.oa v.ob v.kc v.ac v.bc v.rc v.gc v.sc v.mc 65536)) _ ∧ Q17 (P17_0.mk v.x v.L v.L v.Q v.ob_ v.ok v.oa v.ob v.kc v.ac v.bc v.rc v.gc v.sc v.mc 65536) (f17_13 v) := l17_0 (s := ⟨0, 0, 0, op0.1.M, 0, 0, colI (fun _ => []) 0, colI (fun _ => []) 1, colI (fun _ => []) 2, colI (fun _ => []) 3, colI (fun _ => []) 4, colI (fun _ => []) 5, colI (fun _ => []) 6, colI (fun _ => []) 7, colI (fun _ => []) 8⟩)
   ⟨rfl, hQ, h60, rfl⟩ ho ⟨rfl, rfl, rfl⟩ ⟨_, op0_rep⟩ trivial rfl op0_R
  obtain ⟨lt0, hN, hn, ⟨σ, hr⟩, hst, hz, ht⟩ := m0
  have m1 : LT (r17_1 (f17_19 v)) (S17_1.mk 0 0) ∧ (e17_1_0 (f17_19 v) (f17_20 v) = true ∧ (f17_20 v).x10 = (rtN (nds (f17N (f17_19 v)) (f17_19 v).nh3_1)).length) := l17_1 (p := f17_19 v) (s := ⟨0, 0⟩) ⟨rfl, rfl, hN, hn⟩ (σ := σ) hr hst ht ⟨rfl, rfl⟩
  have h21 : f17_21 v = false := by unfold f17_21; rw [m1.2.1]; rfl
  have hr' : RepS ⟨f17_18 v, f17_16 v, f17_17 v⟩ (Lq17 (f17_13 v)) σ := hr
  have ht' : TR ⟨f17_18 v, f17_16 v, f17_17 v⟩ := ht
  have hcc : f17_17 v ≤ 100000 := by
   have h1 : f17_17 v = (Lq17 (f17_13 v)).length := hr'.c
   have h2 : (Lq17 (f17_13 v)).length = (f17_13 v).n7_1 := nds_len _ _
   omega
  have p81 : pre81 (V81.mk v.x (f17_16 v) (f17_17 v) (f17_18 v)) := ⟨hx, ht', _, σ, hr'⟩
  have p82 : pre82 (V82.mk (f17_16 v) (f17_17 v) (f17_18 v)) := ⟨ht', hcc, _, σ, hr'⟩
  have p83 : pre83 (V83.mk v.x (f17_16 v) (f17_17 v) (f17_18 v)) := ⟨hx, ht', hcc, _, σ, hr'⟩
  have hroots : (List.filter (fun (a:Int) => dpE (f17_18 v) a == 0) (chF (f17_18 v) (f17_17 v).toNat (f17_16 v))) = tA (rtN (Lq17 (f17_13 v))) := hr'.roots
  have hrl : ((List.filter (fun (a:Int) => dpE (f17_18 v) a == 0) (chF (f17_18 v) (f17_17 v).toNat (f17_16 v))).length:Int) = (f17_20 v).x10 := by
   rw [hroots, m1.2.2]
   simp only [tA, List.length_map]
   rfl
  refine ⟨⟨trivial, fun _ _ => trivial, fun _ _ _ => lt0, fun _ _ _ => m1.1, fun _ _ _ _ => p81, fun _ _ _ _ => p82, fun _ _ _ _ _ => ⟨fun i => rfl, fun i _ => rfl, ⟨hN, by show (f17_13 v).n7_1 ≤ 100000; omega⟩, fun i => rfl⟩, fun _ _ _ _ _ => ?_, trivial⟩, ?_⟩
  ·repeat' first | exact p83 | intro _ | rfl | apply And.intro
  ·unfold f17_11
   rw [h15, h21, hrl]
   have hd2 : cnd (f17_23 v) true (cnd (cnd (!(paW (f17_18 v) (f17_17 v) v.x).snd) ((paW (f17_18 v) (f17_17 v) v.x).fst == (0:Int)) false) ((↑(abF (f17_18 v) (f17_17 v) (f17_17 v + (1:Int)).toNat v.x).length:Int) == (0:Int)) false) = true := by
    cases h37 : f17_23 v with
    | true => rfl
    | false =>
     have hf : fnd (Lq17 (f17_13 v)) v.x < 0 := by
      have h37 : decide (fnd (Lq17 (f17_13 v)) v.x ≥ 0) = false := h37
      simpa using h37
     have hz1 : hdE (f17_18 v) v.x ≠ 0 := by
      have : hdE (f17_18 v) v.x = hdT (f17_18 v).size (Lq17 (f17_13 v)) v.x := hr'.hdE hx
      rw [this]
      exact hdT_nf hf
     have hpa : paW (f17_18 v) (f17_17 v) v.x = (0, false) := by unfold paW; rw [if_pos hz1]
     have hab : abF (f17_18 v) (f17_17 v) (f17_17 v + (1:Int)).toNat v.x = [] := abF_stop (.inr (by rw [hpa]))
     rw [hab, hpa]
     rfl
   rw [hd2]
   simp [cnd]
set_option maxRecDepth 100000
def pre17 (v : V17) : Prop := v.Q = v.L ∧ (∀ j, j < v.L → (Op.mk (v.ok j) (v.oa j) (v.ob j) (Sl.mk (v.kc j) (v.ac j) (v.bc j) (v.rc j) (v.gc j) (v.sc j) (v.mc j) 0 0 0)).R) ∧ U64 v.x
theorem n17 (v : V17) (h : pre17 v) : (f17 v).ok ∧ (f17 v).get.1 = .bool true ∧ HOws (f17 v).get.2.1 [HO.ro 85 10 v.Q (fun j => [.int .i64 (v.ok j), .int .u64 (v.oa j), .int .u64 (v.ob j), .int .i64 (v.kc j), .int .u64 (v.ac j), .int .i64 (v.bc j), .int .i64 (v.rc j), .int .i64 (v.gc j), .int .i64 (v.sc j), .int .u64 (v.mc j)]) v.ob_] := by
 obtain ⟨k1, k2⟩ := law17_true v h.1 h.2.1 h.2.2
 exact ⟨k1, congrArg SV.bool k2, .refl _⟩
noncomputable def f17n (v : V17) : Tr (Fin th.R) := .need (pre17 v) (.leaf (.bool true, [.ro 85 10 v.Q (fun j => [.int .i64 (v.ok j), .int .u64 (v.oa j), .int .u64 (v.ob j), .int .i64 (v.kc j), .int .u64 (v.ac j), .int .i64 (v.bc j), .int .i64 (v.rc j), .int .i64 (v.gc j), .int .i64 (v.sc j), .int .u64 (v.mc j)]) v.ob_], []))
theorem s17n : Sound Try.prog th 17 (fnC d17 ofV17 f17n) := fnC_refine s17 fun v h => by
 obtain ⟨hp, _⟩ := h
 obtain ⟨a, b, c⟩ := n17 v hp
 exact ⟨a, b.symm, (qdd17 v).symm, c, by show 1 ≤ 1; decide⟩
theorem claw17 (v : V17) : fnC d17 ofV17 f17n (A17 v) (H17 v) = some (.need (∀ i, i < v.Q → (fun j => [.int .i64 (v.ok j), .int .u64 (v.oa j), .int .u64 (v.ob j), .int .i64 (v.kc j), .int .u64 (v.ac j), .int .i64 (v.bc j), .int .i64 (v.rc j), .int .i64 (v.gc j), .int .i64 (v.sc j), .int .u64 (v.mc j)] : Nat → List SV) i = elC (fun j => [.int .i64 (v.ok j), .int .u64 (v.oa j), .int .u64 (v.ob j), .int .i64 (v.kc j), .int .u64 (v.ac j), .int .i64 (v.bc j), .int .i64 (v.rc j), .int .i64 (v.gc j), .int .i64 (v.sc j), .int .u64 (v.mc j)] : Nat → List SV) 0 [.int .i64, .int .u64, .int .u64, .int .i64, .int .u64, .int .i64, .int .i64, .int .i64, .int .i64, .int .u64] i) ((f17n v).map (fixF (H17 v)))) := by kernel_rfl
end Go.Sx.M

