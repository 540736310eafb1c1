/- Contracts of the functions of this seat, each by the executor and the kernel; part 5. Their conditions stand in each. -/
import Derived.Test.YtdeaddkppjdacaaC4
set_option linter.unusedVariables false
set_option linter.unusedSimpArgs false
namespace Go.Sx.S
open Go Go.Sx Go.Proofs Go.RowKit
set_option maxRecDepth 100000
structure V7 where
  L : Nat
  wf : Int
  wt : Int
  M : Nat
  ob : Obj
  F : Nat → Int
  G : Nat → Int
def A7 (v : V7) : List SV := [.slc 0 2 0 v.L, .agg [.int .u64 v.wf, .int .u64 v.wt]]
def H7 (v : V7) : List (HO th.R) := [.ro 27 2 v.M (fun j => [.int .u64 (v.F j), .int .u64 (v.G j)]) v.ob]
def toV7 (v : V7) : List (Vl th.R) := [.n v.L, .i v.wf, .i v.wt, .n v.M, .o v.ob, .c v.F, .c v.G]
def ofV7 : List (Vl th.R) → Option V7
  | [.n L, .i wf, .i wt, .n M, .o ob, .c F, .c G] => some ⟨L, wf, wt, M, ob, F, G⟩
  | _ => none
def d7 : Ft := ⟨[.slc0 0 2, .agg [.int .u64, .int .u64]], [.roc 27 [.int .u64, .int .u64]]⟩
structure P7_0 where
  n0 : Nat
  n5 : Nat
  n6 : Nat
  n43 : Nat
  x44 : Int
  N0 : Nat
  O0 : Obj
  F0_0 : Nat → Int
  F0_1 : Nat → Int
  xh1_0 : Int
  xh1_1 : Int
  N2 : Nat
  F2_0 : Nat → Int
  F2_1 : Nat → Int
  N3 : Nat
  F3_0 : Nat → Int
  F3_1 : Nat → Int
  N4 : Nat
  F4_0 : Nat → Int
  F4_1 : Nat → Int
structure S7_0 where
  n7 : Nat
  x45 : Int
  N5 : Nat
  F5_0 : Nat → Int
  F5_1 : Nat → Int
instance : Inhabited S7_0 := ⟨⟨0, 0, 0, fun _ => 0, fun _ => 0⟩⟩
def I7_0 (p : P7_0) (s : S7_0) : St th.R := ⟨[some (.slc 0 2 0 p.n0), none, none, some (.ptr 1 0), none, some (.slc 2 2 0 p.n5), some (.slc 4 2 0 p.n6), some (.slc 5 2 0 s.n7), none, none, none, none, none, none, none, none, none, none, none, none, none, none, none, none, none, none, none, none, none, none, none, none, none, none, none, none, none, none, none, none, none, none, none, some (.slc 0 2 0 p.n43), some (.int .i64 p.x44), some (.int .i64 s.x45), none, none, none, none, none, none, none, none, none, none, none, none, none, none, none, none, none, none, none, none, none, none, none, none, none, none, none, none, none, none, none, none, none, none, none, none, none, none, none, none, none, none, none, none, none, none, none, none, none, none, none, none, none, none, none, none, none, none, none, none, none, none, none, none, none, none, none, none], [.ro 27 2 p.N0 (fun j => [.int .u64 (p.F0_0 j), .int .u64 (p.F0_1 j)]) p.O0, .cells 27 [.int .u64 p.xh1_0, .int .u64 p.xh1_1], .row 27 2 p.N2 (fun j => [.int .u64 (p.F2_0 j), .int .u64 (p.F2_1 j)]), .row 29 2 p.N3 (fun j => [.int .u64 (p.F3_0 j), .int .u64 (p.F3_1 j)]), .row 29 2 p.N4 (fun j => [.int .u64 (p.F4_0 j), .int .u64 (p.F4_1 j)]), .row 27 2 s.N5 (fun j => [.int .u64 (s.F5_0 j), .int .u64 (s.F5_1 j)])], [], []⟩
def d7_0 : Lp := ⟨⟨114, [(0, .slc0 0 2), (3, .ptr 1 0), (5, .slc0 2 2), (6, .slc0 4 2), (7, .slc0 5 2), (43, .slc0 0 2), (44, .int .i64), (45, .int .i64)], [.roc 27 [.int .u64, .int .u64], .cells 27 [.int .u64, .int .u64], .rowc 27 [.int .u64, .int .u64], .rowc 29 [.int .u64, .int .u64], .rowc 29 [.int .u64, .int .u64], .rowc 27 [.int .u64, .int .u64]]⟩, [⟨7, 27, 2⟩], 5, [], [0, 3, 5, 6, 7, 81, 82, 83, 84], []⟩
def toV7_0 (p : P7_0) (s : S7_0) : List (Vl th.R) := [.n p.n0, .n p.n5, .n p.n6, .n s.n7, .n p.n43, .i p.x44, .i s.x45, .n p.N0, .o p.O0, .c p.F0_0, .c p.F0_1, .i p.xh1_0, .i p.xh1_1, .n p.N2, .c p.F2_0, .c p.F2_1, .n p.N3, .c p.F3_0, .c p.F3_1, .n p.N4, .c p.F4_0, .c p.F4_1, .n s.N5, .c s.F5_0, .c s.F5_1]
def ofV7_0 : List (Vl th.R) → Option (P7_0 × S7_0)
  | [.n n0, .n n5, .n n6, .n n7, .n n43, .i x44, .i x45, .n N0, .o O0, .c F0_0, .c F0_1, .i xh1_0, .i xh1_1, .n N2, .c F2_0, .c F2_1, .n N3, .c F3_0, .c F3_1, .n N4, .c F4_0, .c F4_1, .n N5, .c F5_0, .c F5_1] => some (⟨n0, n5, n6, n43, x44, N0, O0, F0_0, F0_1, xh1_0, xh1_1, N2, F2_0, F2_1, N3, F3_0, F3_1, N4, F4_0, F4_1⟩, ⟨n7, x45, N5, F5_0, F5_1⟩)
  | _ => none
noncomputable def e7_0_0 (p : P7_0) (s : S7_0) : (Bool) := cnd (decide (s.x45 < p.x44)) false true
noncomputable def e7_0_1 (p : P7_0) (s : S7_0) : (Prop) := (∀ (i : Nat), scpL (0:Nat) ((fun (j : Nat) => [SV.int IntKind.u64 (p.F0_0 j), SV.int IntKind.u64 (p.F0_1 j)]) i) = true) ∧ (∀ (i : Nat), scpL (0:Nat) ((fun (j : Nat) => [SV.int IntKind.u64 (p.F2_0 j), SV.int IntKind.u64 (p.F2_1 j)]) i) = true) ∧ (∀ (i : Nat), scpL (0:Nat) ((fun (j : Nat) => [SV.int IntKind.u64 (p.F3_0 j), SV.int IntKind.u64 (p.F3_1 j)]) i) = true) ∧ (∀ (i : Nat), scpL (0:Nat) ((fun (j : Nat) => [SV.int IntKind.u64 (p.F4_0 j), SV.int IntKind.u64 (p.F4_1 j)]) i) = true) ∧ ∀ (i : Nat), scpL (0:Nat) ((fun (j : Nat) => [SV.int IntKind.u64 (s.F5_0 j), SV.int IntKind.u64 (s.F5_1 j)]) i) = true
noncomputable def e7_0_2 (p : P7_0) (s : S7_0) : (Prop) := (0 : Int) ≤ s.x45 ∧ s.x45 < (↑p.n43 : Int)
noncomputable def e7_0_3 (p : P7_0) (s : S7_0) : (Prop) := (0:Nat) + s.x45.toNat < p.N0
noncomputable def e7_0_4 (p : P7_0) (s : S7_0) : (Prop) := f13_0 (p.F0_0 ((0:Nat) + s.x45.toNat)) (p.F0_1 ((0:Nat) + s.x45.toNat)) p.xh1_0 p.xh1_1 = true → (0:Nat) = (0:Nat) ∧ s.n7 ≤ s.N5 ∧ (1 : Nat) ≤ (1 : Nat) ∧ (s.n7 + (1 : Nat)) * (4096 : Nat) ≤ (140737488355328 : Nat) ∧ s.n7 + (1 : Nat) ≤ (9223372036854775807 : Nat)
noncomputable def e7_0_5 (p : P7_0) (s : S7_0) : (Bool) := f13_0 (p.F0_0 ((0:Nat) + s.x45.toNat)) (p.F0_1 ((0:Nat) + s.x45.toNat)) p.xh1_0 p.xh1_1
noncomputable def e7_0_6 (p : P7_0) (s : S7_0) : (Prop) := ((∀ (i : Nat), scpL (0:Nat) ((fun (j : Nat) => [SV.int IntKind.u64 (p.F0_0 j), SV.int IntKind.u64 (p.F0_1 j)]) i) = true) ∧ (∀ (i : Nat), scpL (0:Nat) ((fun (j : Nat) => [SV.int IntKind.u64 (p.F2_0 j), SV.int IntKind.u64 (p.F2_1 j)]) i) = true) ∧ (∀ (i : Nat), scpL (0:Nat) ((fun (j : Nat) => [SV.int IntKind.u64 (p.F3_0 j), SV.int IntKind.u64 (p.F3_1 j)]) i) = true) ∧ (∀ (i : Nat), scpL (0:Nat) ((fun (j : Nat) => [SV.int IntKind.u64 (p.F4_0 j), SV.int IntKind.u64 (p.F4_1 j)]) i) = true) ∧ ∀ (i : Nat), scpL (0:Nat) ((fun (i : Nat) => rowSet (i.blt s.n7) ((fun (j : Nat) => [SV.int IntKind.u64 (s.F5_0 j), SV.int IntKind.u64 (s.F5_1 j)]) i) (rowEl (1 : Nat) (2 : Nat) (setMany (List.map (fun (i : Nat) => [SV.int IntKind.u64 (0 : Int), SV.int IntKind.u64 (0 : Int)].getD (i % (2 : Nat)) Inhabited.default) (List.range (2 : Nat))) (0:Nat) (SV.agg (setMany (setMany [SV.int IntKind.u64 (0 : Int), SV.int IntKind.u64 (0 : Int)] (0:Nat) (SV.int IntKind.u64 (if p.xh1_0 > p.F0_0 ((0:Nat) + s.x45.toNat) then p.xh1_0 else p.F0_0 ((0:Nat) + s.x45.toNat))).cells) (1 : Nat) (SV.int IntKind.u64 (if p.xh1_1 < p.F0_1 ((0:Nat) + s.x45.toNat) then p.xh1_1 else p.F0_1 ((0:Nat) + s.x45.toNat))).cells)).cells) ((0:Nat) + (i - s.n7)))) i) = true) ∧ (∀ (i : Nat), i < p.N0 → (fun (j : Nat) => [SV.int IntKind.u64 (p.F0_0 j), SV.int IntKind.u64 (p.F0_1 j)]) i = elC (fun (j : Nat) => [SV.int IntKind.u64 (p.F0_0 j), SV.int IntKind.u64 (p.F0_1 j)]) (0:Nat) [Ck.int IntKind.u64, Ck.int IntKind.u64] i) ∧ (∀ (i : Nat), i < p.N2 → (fun (j : Nat) => [SV.int IntKind.u64 (p.F2_0 j), SV.int IntKind.u64 (p.F2_1 j)]) i = elC (fun (j : Nat) => [SV.int IntKind.u64 (p.F2_0 j), SV.int IntKind.u64 (p.F2_1 j)]) (0:Nat) [Ck.int IntKind.u64, Ck.int IntKind.u64] i) ∧ (∀ (i : Nat), i < p.N3 → (fun (j : Nat) => [SV.int IntKind.u64 (p.F3_0 j), SV.int IntKind.u64 (p.F3_1 j)]) i = elC (fun (j : Nat) => [SV.int IntKind.u64 (p.F3_0 j), SV.int IntKind.u64 (p.F3_1 j)]) (0:Nat) [Ck.int IntKind.u64, Ck.int IntKind.u64] i) ∧ (∀ (i : Nat), i < p.N4 → (fun (j : Nat) => [SV.int IntKind.u64 (p.F4_0 j), SV.int IntKind.u64 (p.F4_1 j)]) i = elC (fun (j : Nat) => [SV.int IntKind.u64 (p.F4_0 j), SV.int IntKind.u64 (p.F4_1 j)]) (0:Nat) [Ck.int IntKind.u64, Ck.int IntKind.u64] i) ∧ ∀ (i : Nat), i < s.n7 + (1 : Nat) → (fun (i : Nat) => rowSet (i.blt s.n7) ((fun (j : Nat) => [SV.int IntKind.u64 (s.F5_0 j), SV.int IntKind.u64 (s.F5_1 j)]) i) (rowEl (1 : Nat) (2 : Nat) (setMany (List.map (fun (i : Nat) => [SV.int IntKind.u64 (0 : Int), SV.int IntKind.u64 (0 : Int)].getD (i % (2 : Nat)) Inhabited.default) (List.range (2 : Nat))) (0:Nat) (SV.agg (setMany (setMany [SV.int IntKind.u64 (0 : Int), SV.int IntKind.u64 (0 : Int)] (0:Nat) (SV.int IntKind.u64 (if p.xh1_0 > p.F0_0 ((0:Nat) + s.x45.toNat) then p.xh1_0 else p.F0_0 ((0:Nat) + s.x45.toNat))).cells) (1 : Nat) (SV.int IntKind.u64 (if p.xh1_1 < p.F0_1 ((0:Nat) + s.x45.toNat) then p.xh1_1 else p.F0_1 ((0:Nat) + s.x45.toNat))).cells)).cells) ((0:Nat) + (i - s.n7)))) i = elC (fun (i : Nat) => rowSet (i.blt s.n7) ((fun (j : Nat) => [SV.int IntKind.u64 (s.F5_0 j), SV.int IntKind.u64 (s.F5_1 j)]) i) (rowEl (1 : Nat) (2 : Nat) (setMany (List.map (fun (i : Nat) => [SV.int IntKind.u64 (0 : Int), SV.int IntKind.u64 (0 : Int)].getD (i % (2 : Nat)) Inhabited.default) (List.range (2 : Nat))) (0:Nat) (SV.agg (setMany (setMany [SV.int IntKind.u64 (0 : Int), SV.int IntKind.u64 (0 : Int)] (0:Nat) (SV.int IntKind.u64 (if p.xh1_0 > p.F0_0 ((0:Nat) + s.x45.toNat) then p.xh1_0 else p.F0_0 ((0:Nat) + s.x45.toNat))).cells) (1 : Nat) (SV.int IntKind.u64 (if p.xh1_1 < p.F0_1 ((0:Nat) + s.x45.toNat) then p.xh1_1 else p.F0_1 ((0:Nat) + s.x45.toNat))).cells)).cells) ((0:Nat) + (i - s.n7)))) (0:Nat) [Ck.int IntKind.u64, Ck.int IntKind.u64] i
noncomputable def e7_0_7 (p : P7_0) (s : S7_0) : (Nat) := s.n7 + (1 : Nat)
noncomputable def e7_0_8 (p : P7_0) (s : S7_0) : (Int) := IntKind.i64.wrap (s.x45 + (1 : Int))
noncomputable def e7_0_9 (p : P7_0) (s : S7_0) : Nat → (Int) := fun j => cnd (j.blt s.n7) (s.F5_0 j) (if p.xh1_0 > p.F0_0 ((0:Nat) + s.x45.toNat) then p.xh1_0 else p.F0_0 ((0:Nat) + s.x45.toNat))
noncomputable def e7_0_10 (p : P7_0) (s : S7_0) : Nat → (Int) := fun j => cnd (j.blt s.n7) (s.F5_1 j) (if p.xh1_1 < p.F0_1 ((0:Nat) + s.x45.toNat) then p.xh1_1 else p.F0_1 ((0:Nat) + s.x45.toNat))
noncomputable def e7_0_11 (p : P7_0) (s : S7_0) : (Prop) := ((∀ (i : Nat), scpL (0:Nat) ((fun (j : Nat) => [SV.int IntKind.u64 (p.F0_0 j), SV.int IntKind.u64 (p.F0_1 j)]) i) = true) ∧ (∀ (i : Nat), scpL (0:Nat) ((fun (j : Nat) => [SV.int IntKind.u64 (p.F2_0 j), SV.int IntKind.u64 (p.F2_1 j)]) i) = true) ∧ (∀ (i : Nat), scpL (0:Nat) ((fun (j : Nat) => [SV.int IntKind.u64 (p.F3_0 j), SV.int IntKind.u64 (p.F3_1 j)]) i) = true) ∧ (∀ (i : Nat), scpL (0:Nat) ((fun (j : Nat) => [SV.int IntKind.u64 (p.F4_0 j), SV.int IntKind.u64 (p.F4_1 j)]) i) = true) ∧ ∀ (i : Nat), scpL (0:Nat) ((fun (j : Nat) => [SV.int IntKind.u64 (s.F5_0 j), SV.int IntKind.u64 (s.F5_1 j)]) i) = true) ∧ (∀ (i : Nat), i < p.N0 → (fun (j : Nat) => [SV.int IntKind.u64 (p.F0_0 j), SV.int IntKind.u64 (p.F0_1 j)]) i = elC (fun (j : Nat) => [SV.int IntKind.u64 (p.F0_0 j), SV.int IntKind.u64 (p.F0_1 j)]) (0:Nat) [Ck.int IntKind.u64, Ck.int IntKind.u64] i) ∧ (∀ (i : Nat), i < p.N2 → (fun (j : Nat) => [SV.int IntKind.u64 (p.F2_0 j), SV.int IntKind.u64 (p.F2_1 j)]) i = elC (fun (j : Nat) => [SV.int IntKind.u64 (p.F2_0 j), SV.int IntKind.u64 (p.F2_1 j)]) (0:Nat) [Ck.int IntKind.u64, Ck.int IntKind.u64] i) ∧ (∀ (i : Nat), i < p.N3 → (fun (j : Nat) => [SV.int IntKind.u64 (p.F3_0 j), SV.int IntKind.u64 (p.F3_1 j)]) i = elC (fun (j : Nat) => [SV.int IntKind.u64 (p.F3_0 j), SV.int IntKind.u64 (p.F3_1 j)]) (0:Nat) [Ck.int IntKind.u64, Ck.int IntKind.u64] i) ∧ (∀ (i : Nat), i < p.N4 → (fun (j : Nat) => [SV.int IntKind.u64 (p.F4_0 j), SV.int IntKind.u64 (p.F4_1 j)]) i = elC (fun (j : Nat) => [SV.int IntKind.u64 (p.F4_0 j), SV.int IntKind.u64 (p.F4_1 j)]) (0:Nat) [Ck.int IntKind.u64, Ck.int IntKind.u64] i) ∧ ∀ (i : Nat), i < s.N5 → (fun (j : Nat) => [SV.int IntKind.u64 (s.F5_0 j), SV.int IntKind.u64 (s.F5_1 j)]) i = elC (fun (j : Nat) => [SV.int IntKind.u64 (s.F5_0 j), SV.int IntKind.u64 (s.F5_1 j)]) (0:Nat) [Ck.int IntKind.u64, Ck.int IntKind.u64] i
theorem n_e7_0_1 (p : P7_0) (s : S7_0) : e7_0_1 p s := by
  unfold e7_0_1
  first
    | (intros; rfl)
    | (intro i; rfl)
    | (intro i _; rfl)
    | (intro _ i; rfl)
    | (intro _ i _; rfl)
    | (refine ⟨?_, ?_⟩ <;> intro i <;> rfl)
    | (refine ⟨?_, ?_, ?_⟩ <;> intro i <;> rfl)
    | (refine ⟨?_, ?_⟩ <;> intro i _ <;> rfl)
    | (repeat' apply And.intro) <;> first | (intro i; rfl) | (intro i _; rfl) | (intro i h; exact absurd h (Nat.not_lt_zero i)) | (intro i; exact scpL_rowSet (by rfl) (by rfl)) | (intro i; exact scpL_rowEl (by kernel_rfl) _)
    | (intros; (repeat' apply And.intro) <;> intros <;> first | rfl | (exact absurd (by assumption) (Nat.not_lt_zero _)))
    | omega
    | decide
theorem n_e7_0_6 (p : P7_0) (s : S7_0) : e7_0_6 p s := by
  unfold e7_0_6
  first
    | (intros; rfl)
    | (intro i; rfl)
    | (intro i _; rfl)
    | (intro _ i; rfl)
    | (intro _ i _; rfl)
    | (refine ⟨?_, ?_⟩ <;> intro i <;> rfl)
    | (refine ⟨?_, ?_, ?_⟩ <;> intro i <;> rfl)
    | (refine ⟨?_, ?_⟩ <;> intro i _ <;> rfl)
    | (repeat' apply And.intro) <;> first | (intro i; rfl) | (intro i _; rfl) | (intro i h; exact absurd h (Nat.not_lt_zero i)) | (intro i; exact scpL_rowSet (by rfl) (by rfl)) | (intro i; exact scpL_rowEl (by kernel_rfl) _)
    | (intros; (repeat' apply And.intro) <;> intros <;> first | rfl | (exact absurd (by assumption) (Nat.not_lt_zero _)))
    | omega
    | decide
theorem n_e7_0_11 (p : P7_0) (s : S7_0) : e7_0_11 p s := by
  unfold e7_0_11
  first
    | (intros; rfl)
    | (intro i; rfl)
    | (intro i _; rfl)
    | (intro _ i; rfl)
    | (intro _ i _; rfl)
    | (refine ⟨?_, ?_⟩ <;> intro i <;> rfl)
    | (refine ⟨?_, ?_, ?_⟩ <;> intro i <;> rfl)
    | (refine ⟨?_, ?_⟩ <;> intro i _ <;> rfl)
    | (repeat' apply And.intro) <;> first | (intro i; rfl) | (intro i _; rfl) | (intro i h; exact absurd h (Nat.not_lt_zero i)) | (intro i; exact scpL_rowSet (by rfl) (by rfl)) | (intro i; exact scpL_rowEl (by kernel_rfl) _)
    | (intros; (repeat' apply And.intro) <;> intros <;> first | rfl | (exact absurd (by assumption) (Nat.not_lt_zero _)))
    | omega
    | decide
noncomputable def rf7_0 (p : P7_0) (s : S7_0) : Tr (Rs th.R S7_0) := (Tr.ite (e7_0_0 p s) (Tr.need (e7_0_1 p s) (Tr.leaf (Rs.out (Ex.exit ((0:Nat))) (List.cons (Option.some (SV.slc ((0:Nat)) ((2 : Nat)) ((0:Nat)) (p.n0))) (none :: (none :: (List.cons (Option.some (SV.ptr ((1 : Nat)) ((0:Nat)))) (none :: (List.cons (Option.some (SV.slc ((2 : Nat)) ((2 : Nat)) ((0:Nat)) (p.n5))) (List.cons (Option.some (SV.slc ((4 : Nat)) ((2 : Nat)) ((0:Nat)) (p.n6))) (List.cons (Option.some (SV.slc (5) ((2 : Nat)) ((0:Nat)) (s.n7))) (none :: (none :: (none :: (none :: (none :: (none :: (none :: (none :: (none :: (none :: (none :: (none :: (none :: (none :: (none :: (none :: (none :: (none :: (none :: (none :: (none :: (none :: (none :: (none :: (none :: (none :: (none :: (none :: (none :: (none :: (none :: (none :: (none :: (none :: (none :: (none :: (none :: (none :: (none :: (none :: (none :: (none :: (none :: (none :: (none :: (none :: (none :: (none :: (none :: (none :: (none :: (none :: (none :: (none :: (none :: (none :: (none :: (none :: (none :: (none :: (none :: (none :: (none :: (none :: (none :: (none :: (none :: (none :: (none :: (none :: (none :: (none :: (none :: (none :: (none :: (none :: (none :: (none :: (none :: (none :: (none :: (none :: (none :: (none :: (none :: (none :: (none :: (none :: (none :: (none :: (none :: (none :: (none :: (none :: (none :: (none :: (none :: (none :: (none :: (none :: (none :: (none :: (none :: (none :: (none :: (none :: [])))))))))))))))))))))))))))))))))))))))))))))))))))))))))))))))))))))))))))))))))))))))))))))))))))))))))))))))))) (List.cons (HO.ro ((27 : Nat)) ((2 : Nat)) (p.N0) (fun j => (List.cons (SV.int (IntKind.u64) (p.F0_0 j)) (List.cons (SV.int (IntKind.u64) (p.F0_1 j)) []))) (p.O0)) (List.cons (HO.cells ((27 : Nat)) (List.cons (SV.int (IntKind.u64) (p.xh1_0)) (List.cons (SV.int (IntKind.u64) (p.xh1_1)) []))) (List.cons (HO.row ((27 : Nat)) ((2 : Nat)) (p.N2) (fun j => (List.cons (SV.int (IntKind.u64) (p.F2_0 j)) (List.cons (SV.int (IntKind.u64) (p.F2_1 j)) [])))) (List.cons (HO.row ((29 : Nat)) ((2 : Nat)) (p.N3) (fun j => (List.cons (SV.int (IntKind.u64) (p.F3_0 j)) (List.cons (SV.int (IntKind.u64) (p.F3_1 j)) [])))) (List.cons (HO.row ((29 : Nat)) ((2 : Nat)) (p.N4) (fun j => (List.cons (SV.int (IntKind.u64) (p.F4_0 j)) (List.cons (SV.int (IntKind.u64) (p.F4_1 j)) [])))) (List.cons (HO.row ((27 : Nat)) ((2 : Nat)) (s.N5) (fun j => (List.cons (SV.int (IntKind.u64) (s.F5_0 j)) (List.cons (SV.int (IntKind.u64) (s.F5_1 j)) [])))) []))))))))) (Tr.need (e7_0_2 p s) (Tr.need (e7_0_3 p s) (Tr.need (e7_0_4 p s) (Tr.ite (e7_0_5 p s) (Tr.need (e7_0_6 p s) (Tr.leaf (Rs.on (S7_0.mk ((e7_0_7 p s)) ((e7_0_8 p s)) ((e7_0_7 p s)) ((fun j => (e7_0_9 p s j))) ((fun j => (e7_0_10 p s j))))))) (Tr.need (e7_0_11 p s) (Tr.leaf (Rs.on (S7_0.mk (s.n7) ((e7_0_8 p s)) (s.N5) (s.F5_0) (s.F5_1))))))))))
noncomputable def r7_0 (p : P7_0) (s : S7_0) : Tr (Rs th.R S7_0) := (Tr.ite (e7_0_0 p s) (Tr.leaf (Rs.out (Ex.exit ((0:Nat))) (List.cons (Option.some (SV.slc ((0:Nat)) ((2 : Nat)) ((0:Nat)) (p.n0))) (none :: (none :: (List.cons (Option.some (SV.ptr ((1 : Nat)) ((0:Nat)))) (none :: (List.cons (Option.some (SV.slc ((2 : Nat)) ((2 : Nat)) ((0:Nat)) (p.n5))) (List.cons (Option.some (SV.slc ((4 : Nat)) ((2 : Nat)) ((0:Nat)) (p.n6))) (List.cons (Option.some (SV.slc (5) ((2 : Nat)) ((0:Nat)) (s.n7))) (none :: (none :: (none :: (none :: (none :: (none :: (none :: (none :: (none :: (none :: (none :: (none :: (none :: (none :: (none :: (none :: (none :: (none :: (none :: (none :: (none :: (none :: (none :: (none :: (none :: (none :: (none :: (none :: (none :: (none :: (none :: (none :: (none :: (none :: (none :: (none :: (none :: (none :: (none :: (none :: (none :: (none :: (none :: (none :: (none :: (none :: (none :: (none :: (none :: (none :: (none :: (none :: (none :: (none :: (none :: (none :: (none :: (none :: (none :: (none :: (none :: (none :: (none :: (none :: (none :: (none :: (none :: (none :: (none :: (none :: (none :: (none :: (none :: (none :: (none :: (none :: (none :: (none :: (none :: (none :: (none :: (none :: (none :: (none :: (none :: (none :: (none :: (none :: (none :: (none :: (none :: (none :: (none :: (none :: (none :: (none :: (none :: (none :: (none :: (none :: (none :: (none :: (none :: (none :: (none :: (none :: [])))))))))))))))))))))))))))))))))))))))))))))))))))))))))))))))))))))))))))))))))))))))))))))))))))))))))))))))))) (List.cons (HO.ro ((27 : Nat)) ((2 : Nat)) (p.N0) (fun j => (List.cons (SV.int (IntKind.u64) (p.F0_0 j)) (List.cons (SV.int (IntKind.u64) (p.F0_1 j)) []))) (p.O0)) (List.cons (HO.cells ((27 : Nat)) (List.cons (SV.int (IntKind.u64) (p.xh1_0)) (List.cons (SV.int (IntKind.u64) (p.xh1_1)) []))) (List.cons (HO.row ((27 : Nat)) ((2 : Nat)) (p.N2) (fun j => (List.cons (SV.int (IntKind.u64) (p.F2_0 j)) (List.cons (SV.int (IntKind.u64) (p.F2_1 j)) [])))) (List.cons (HO.row ((29 : Nat)) ((2 : Nat)) (p.N3) (fun j => (List.cons (SV.int (IntKind.u64) (p.F3_0 j)) (List.cons (SV.int (IntKind.u64) (p.F3_1 j)) [])))) (List.cons (HO.row ((29 : Nat)) ((2 : Nat)) (p.N4) (fun j => (List.cons (SV.int (IntKind.u64) (p.F4_0 j)) (List.cons (SV.int (IntKind.u64) (p.F4_1 j)) [])))) (List.cons (HO.row ((27 : Nat)) ((2 : Nat)) (s.N5) (fun j => (List.cons (SV.int (IntKind.u64) (s.F5_0 j)) (List.cons (SV.int (IntKind.u64) (s.F5_1 j)) [])))) [])))))))) (Tr.need (e7_0_2 p s) (Tr.need (e7_0_3 p s) (Tr.need (e7_0_4 p s) (Tr.ite (e7_0_5 p s) (Tr.leaf (Rs.on (S7_0.mk ((e7_0_7 p s)) ((e7_0_8 p s)) ((e7_0_7 p s)) ((fun j => (e7_0_9 p s j))) ((fun j => (e7_0_10 p s j)))))) (Tr.leaf (Rs.on (S7_0.mk (s.n7) ((e7_0_8 p s)) (s.N5) (s.F5_0) (s.F5_1)))))))))
noncomputable def E7_0 : St th.R → Out th := evCode th Try.prog (auto th Try.prog nice29n [] 20) (autoH [] [] [] [7, 105] : Hints th) (lpAt Try.prog 7 0)
theorem B7_0 : CodeSound th Try.prog (lpAt Try.prog 7 0) E7_0 := evCode_sound (T := th) (P := Try.prog) (tbl := (auto th Try.prog nice29n [] 20)) (auto_sound (nice := nice29n) (us := []) nok29n 20) (autoH [] [] [] [7, 105] : Hints th) _ (LoopsOk_mem (fun _ => rfl) _ fun b hb L hL => by cases hL)
noncomputable def L7_0 : St th.R → Out th := loopL d7_0 ofV7_0 r7_0
theorem h1_7_0 (p : P7_0) (s : S7_0) : bld d7_0.tm (toV7_0 p s) = some (I7_0 p s) := by kernel_rfl
theorem h2_7_0 (l : List (Vl th.R)) (p : P7_0) (s : S7_0) (h : ofV7_0 l = some (p, s)) : l = toV7_0 p s := by
  unfold ofV7_0 at h
  split at h
  · cases h; rfl
  · cases h
theorem h3_7_0 (p : P7_0) (s : S7_0) : cvE d7_0 (E7_0 (I7_0 p s)) = some ((rf7_0 p s).map (Rs.map (toV7_0 p))) := by kernel_rfl
theorem h3g_7_0 (p : P7_0) (s : S7_0) : (rf7_0 p s).get = (r7_0 p s).get := by kernel_rfl
theorem h4_7_0 (p : P7_0) (s s1 : S7_0) : outH d7_0.dirt d7_0.n0 (r7_0 p s) = repH (maskH d7_0.dirt 0 d7_0.n0 (I7_0 p s1).heap) (r7_0 p s) := by kernel_rfl
theorem ls7_0 : CodeSound th Try.prog (.loop (lpAt Try.prog 7 0)) L7_0 := loopL_sound B7_0 d7_0 I7_0 toV7_0 (by kernel_rfl) h1_7_0 h2_7_0
  (fun p s => ⟨(rf7_0 p s).map (Rs.map (toV7_0 p)), h3_7_0 p s, fun h => by
    rw [Tr.map_ok]
    unfold r7_0 at h; unfold rf7_0
    simp only [Tr.ok, n_e7_0_1, n_e7_0_6, n_e7_0_11, true_and, and_true, forall_const, implies_true] at h ⊢
    try exact h, by rw [Tr.map_get, h3g_7_0 p s]⟩) h4_7_0
structure P7_2 where
  n0 : Nat
  n6 : Nat
  n7 : Nat
  x10 : Int
  n67 : Nat
  x68 : Int
  x69 : Int
  n93 : Nat
  x94 : Int
  N0 : Nat
  O0 : Obj
  F0_0 : Nat → Int
  F0_1 : Nat → Int
  xh1_0 : Int
  xh1_1 : Int
  N2 : Nat
  F2_0 : Nat → Int
  F2_1 : Nat → Int
  N3 : Nat
  F3_0 : Nat → Int
  F3_1 : Nat → Int
  N4 : Nat
  F4_0 : Nat → Int
  F4_1 : Nat → Int
  N5 : Nat
  F5_0 : Nat → Int
  F5_1 : Nat → Int
  xh6_0 : Int
  xh6_1 : Int
structure S7_2 where
  x95 : Int
instance : Inhabited S7_2 := ⟨⟨0⟩⟩
def I7_2 (p : P7_2) (s : S7_2) : St th.R := ⟨[some (.slc 0 2 0 p.n0), none, none, some (.ptr 1 0), none, none, some (.slc 4 2 0 p.n6), some (.slc 5 2 0 p.n7), none, none, some (.int .u64 p.x10), none, some (.ptr 6 0), none, none, none, none, none, none, none, none, none, none, none, none, none, none, none, none, none, none, none, none, none, none, none, none, none, none, none, none, none, none, none, none, none, none, none, none, none, none, none, none, none, none, none, none, none, none, none, none, none, none, none, none, none, none, some (.slc 2 2 0 p.n67), some (.int .i64 p.x68), some (.int .i64 p.x69), none, none, none, none, none, none, none, none, none, none, none, none, none, none, none, none, none, none, none, none, none, none, none, some (.slc 0 2 0 p.n93), some (.int .i64 p.x94), some (.int .i64 s.x95), none, none, none, none, none, none, none, none, none, none, none, none, none, none, none, none, none, none], [.ro 27 2 p.N0 (fun j => [.int .u64 (p.F0_0 j), .int .u64 (p.F0_1 j)]) p.O0, .cells 27 [.int .u64 p.xh1_0, .int .u64 p.xh1_1], .row 27 2 p.N2 (fun j => [.int .u64 (p.F2_0 j), .int .u64 (p.F2_1 j)]), .row 29 2 p.N3 (fun j => [.int .u64 (p.F3_0 j), .int .u64 (p.F3_1 j)]), .row 29 2 p.N4 (fun j => [.int .u64 (p.F4_0 j), .int .u64 (p.F4_1 j)]), .row 27 2 p.N5 (fun j => [.int .u64 (p.F5_0 j), .int .u64 (p.F5_1 j)]), .cells 27 [.int .u64 p.xh6_0, .int .u64 p.xh6_1]], [], []⟩
def d7_2 : Lp := ⟨⟨114, [(0, .slc0 0 2), (3, .ptr 1 0), (6, .slc0 4 2), (7, .slc0 5 2), (10, .int .u64), (12, .ptr 6 0), (67, .slc0 2 2), (68, .int .i64), (69, .int .i64), (93, .slc0 0 2), (94, .int .i64), (95, .int .i64)], [.roc 27 [.int .u64, .int .u64], .cells 27 [.int .u64, .int .u64], .rowc 27 [.int .u64, .int .u64], .rowc 29 [.int .u64, .int .u64], .rowc 29 [.int .u64, .int .u64], .rowc 27 [.int .u64, .int .u64], .cells 27 [.int .u64, .int .u64]]⟩, [], 7, [], [0, 3, 4, 6, 7, 10, 67, 68, 69, 81, 82, 83, 84], []⟩
def toV7_2 (p : P7_2) (s : S7_2) : List (Vl th.R) := [.n p.n0, .n p.n6, .n p.n7, .i p.x10, .n p.n67, .i p.x68, .i p.x69, .n p.n93, .i p.x94, .i s.x95, .n p.N0, .o p.O0, .c p.F0_0, .c p.F0_1, .i p.xh1_0, .i p.xh1_1, .n p.N2, .c p.F2_0, .c p.F2_1, .n p.N3, .c p.F3_0, .c p.F3_1, .n p.N4, .c p.F4_0, .c p.F4_1, .n p.N5, .c p.F5_0, .c p.F5_1, .i p.xh6_0, .i p.xh6_1]
def ofV7_2 : List (Vl th.R) → Option (P7_2 × S7_2)
  | [.n n0, .n n6, .n n7, .i x10, .n n67, .i x68, .i x69, .n n93, .i x94, .i x95, .n N0, .o O0, .c F0_0, .c F0_1, .i xh1_0, .i xh1_1, .n N2, .c F2_0, .c F2_1, .n N3, .c F3_0, .c F3_1, .n N4, .c F4_0, .c F4_1, .n N5, .c F5_0, .c F5_1, .i xh6_0, .i xh6_1] => some (⟨n0, n6, n7, x10, n67, x68, x69, n93, x94, N0, O0, F0_0, F0_1, xh1_0, xh1_1, N2, F2_0, F2_1, N3, F3_0, F3_1, N4, F4_0, F4_1, N5, F5_0, F5_1, xh6_0, xh6_1⟩, ⟨x95⟩)
  | _ => none
noncomputable def e7_2_0 (p : P7_2) (s : S7_2) : (Bool) := cnd (decide (s.x95 < p.x94)) false true
noncomputable def e7_2_1 (p : P7_2) (s : S7_2) : (Prop) := (∀ (i : Nat), scpL (0:Nat) ((fun (j : Nat) => [SV.int IntKind.u64 (p.F0_0 j), SV.int IntKind.u64 (p.F0_1 j)]) i) = true) ∧ (∀ (i : Nat), scpL (0:Nat) ((fun (j : Nat) => [SV.int IntKind.u64 (p.F2_0 j), SV.int IntKind.u64 (p.F2_1 j)]) i) = true) ∧ (∀ (i : Nat), scpL (0:Nat) ((fun (j : Nat) => [SV.int IntKind.u64 (p.F3_0 j), SV.int IntKind.u64 (p.F3_1 j)]) i) = true) ∧ (∀ (i : Nat), scpL (0:Nat) ((fun (j : Nat) => [SV.int IntKind.u64 (p.F4_0 j), SV.int IntKind.u64 (p.F4_1 j)]) i) = true) ∧ ∀ (i : Nat), scpL (0:Nat) ((fun (j : Nat) => [SV.int IntKind.u64 (p.F5_0 j), SV.int IntKind.u64 (p.F5_1 j)]) i) = true
noncomputable def e7_2_2 (p : P7_2) (s : S7_2) : (Prop) := (0 : Int) ≤ s.x95 ∧ s.x95 < (↑p.n93 : Int)
noncomputable def e7_2_3 (p : P7_2) (s : S7_2) : (Prop) := (0:Nat) + s.x95.toNat < p.N0
noncomputable def e7_2_4 (p : P7_2) (s : S7_2) : (Bool) := f13_0 (p.F0_0 ((0:Nat) + s.x95.toNat)) (p.F0_1 ((0:Nat) + s.x95.toNat)) p.xh6_0 p.xh6_1
noncomputable def e7_2_5 (p : P7_2) (s : S7_2) : (Prop) := ((∀ (i : Nat), scpL (0:Nat) ((fun (j : Nat) => [SV.int IntKind.u64 (p.F0_0 j), SV.int IntKind.u64 (p.F0_1 j)]) i) = true) ∧ (∀ (i : Nat), scpL (0:Nat) ((fun (j : Nat) => [SV.int IntKind.u64 (p.F2_0 j), SV.int IntKind.u64 (p.F2_1 j)]) i) = true) ∧ (∀ (i : Nat), scpL (0:Nat) ((fun (j : Nat) => [SV.int IntKind.u64 (p.F3_0 j), SV.int IntKind.u64 (p.F3_1 j)]) i) = true) ∧ (∀ (i : Nat), scpL (0:Nat) ((fun (j : Nat) => [SV.int IntKind.u64 (p.F4_0 j), SV.int IntKind.u64 (p.F4_1 j)]) i) = true) ∧ ∀ (i : Nat), scpL (0:Nat) ((fun (j : Nat) => [SV.int IntKind.u64 (p.F5_0 j), SV.int IntKind.u64 (p.F5_1 j)]) i) = true) ∧ (∀ (i : Nat), i < p.N0 → (fun (j : Nat) => [SV.int IntKind.u64 (p.F0_0 j), SV.int IntKind.u64 (p.F0_1 j)]) i = elC (fun (j : Nat) => [SV.int IntKind.u64 (p.F0_0 j), SV.int IntKind.u64 (p.F0_1 j)]) (0:Nat) [Ck.int IntKind.u64, Ck.int IntKind.u64] i) ∧ (∀ (i : Nat), i < p.N2 → (fun (j : Nat) => [SV.int IntKind.u64 (p.F2_0 j), SV.int IntKind.u64 (p.F2_1 j)]) i = elC (fun (j : Nat) => [SV.int IntKind.u64 (p.F2_0 j), SV.int IntKind.u64 (p.F2_1 j)]) (0:Nat) [Ck.int IntKind.u64, Ck.int IntKind.u64] i) ∧ (∀ (i : Nat), i < p.N3 → (fun (j : Nat) => [SV.int IntKind.u64 (p.F3_0 j), SV.int IntKind.u64 (p.F3_1 j)]) i = elC (fun (j : Nat) => [SV.int IntKind.u64 (p.F3_0 j), SV.int IntKind.u64 (p.F3_1 j)]) (0:Nat) [Ck.int IntKind.u64, Ck.int IntKind.u64] i) ∧ (∀ (i : Nat), i < p.N4 → (fun (j : Nat) => [SV.int IntKind.u64 (p.F4_0 j), SV.int IntKind.u64 (p.F4_1 j)]) i = elC (fun (j : Nat) => [SV.int IntKind.u64 (p.F4_0 j), SV.int IntKind.u64 (p.F4_1 j)]) (0:Nat) [Ck.int IntKind.u64, Ck.int IntKind.u64] i) ∧ ∀ (i : Nat), i < p.N5 → (fun (j : Nat) => [SV.int IntKind.u64 (p.F5_0 j), SV.int IntKind.u64 (p.F5_1 j)]) i = elC (fun (j : Nat) => [SV.int IntKind.u64 (p.F5_0 j), SV.int IntKind.u64 (p.F5_1 j)]) (0:Nat) [Ck.int IntKind.u64, Ck.int IntKind.u64] i
noncomputable def e7_2_6 (p : P7_2) (s : S7_2) : (Int) := IntKind.i64.wrap (s.x95 + (1 : Int))
theorem n_e7_2_1 (p : P7_2) (s : S7_2) : e7_2_1 p s := by
  unfold e7_2_1
  first
    | (intros; rfl)
    | (intro i; rfl)
    | (intro i _; rfl)
    | (intro _ i; rfl)
    | (intro _ i _; rfl)
    | (refine ⟨?_, ?_⟩ <;> intro i <;> rfl)
    | (refine ⟨?_, ?_, ?_⟩ <;> intro i <;> rfl)
    | (refine ⟨?_, ?_⟩ <;> intro i _ <;> rfl)
    | (repeat' apply And.intro) <;> first | (intro i; rfl) | (intro i _; rfl) | (intro i h; exact absurd h (Nat.not_lt_zero i)) | (intro i; exact scpL_rowSet (by rfl) (by rfl)) | (intro i; exact scpL_rowEl (by kernel_rfl) _)
    | (intros; (repeat' apply And.intro) <;> intros <;> first | rfl | (exact absurd (by assumption) (Nat.not_lt_zero _)))
    | omega
    | decide
theorem n_e7_2_5 (p : P7_2) (s : S7_2) : e7_2_5 p s := by
  unfold e7_2_5
  first
    | (intros; rfl)
    | (intro i; rfl)
    | (intro i _; rfl)
    | (intro _ i; rfl)
    | (intro _ i _; rfl)
    | (refine ⟨?_, ?_⟩ <;> intro i <;> rfl)
    | (refine ⟨?_, ?_, ?_⟩ <;> intro i <;> rfl)
    | (refine ⟨?_, ?_⟩ <;> intro i _ <;> rfl)
    | (repeat' apply And.intro) <;> first | (intro i; rfl) | (intro i _; rfl) | (intro i h; exact absurd h (Nat.not_lt_zero i)) | (intro i; exact scpL_rowSet (by rfl) (by rfl)) | (intro i; exact scpL_rowEl (by kernel_rfl) _)
    | (intros; (repeat' apply And.intro) <;> intros <;> first | rfl | (exact absurd (by assumption) (Nat.not_lt_zero _)))
    | omega
    | decide
noncomputable def rf7_2 (p : P7_2) (s : S7_2) : Tr (Rs th.R S7_2) := (Tr.ite (e7_2_0 p s) (Tr.need (e7_2_1 p s) (Tr.leaf (Rs.out (Ex.exit ((4 : Nat))) (List.cons (Option.some (SV.slc ((0:Nat)) ((2 : Nat)) ((0:Nat)) (p.n0))) (none :: (none :: (List.cons (Option.some (SV.ptr ((1 : Nat)) ((0:Nat)))) (none :: (none :: (List.cons (Option.some (SV.slc ((4 : Nat)) ((2 : Nat)) ((0:Nat)) (p.n6))) (List.cons (Option.some (SV.slc ((5 : Nat)) ((2 : Nat)) ((0:Nat)) (p.n7))) (none :: (none :: (List.cons (Option.some (SV.int (IntKind.u64) (p.x10))) (none :: (none :: (none :: (none :: (none :: (none :: (none :: (none :: (none :: (none :: (none :: (none :: (none :: (none :: (none :: (none :: (none :: (none :: (none :: (none :: (none :: (none :: (none :: (none :: (none :: (none :: (none :: (none :: (none :: (none :: (none :: (none :: (none :: (none :: (none :: (none :: (none :: (none :: (none :: (none :: (none :: (none :: (none :: (none :: (none :: (none :: (none :: (none :: (none :: (none :: (none :: (none :: (none :: (none :: (none :: (none :: (List.cons (Option.some (SV.slc ((2 : Nat)) ((2 : Nat)) ((0:Nat)) (p.n67))) (List.cons (Option.some (SV.int (IntKind.i64) (p.x68))) (List.cons (Option.some (SV.int (IntKind.i64) (p.x69))) (none :: (none :: (none :: (none :: (none :: (none :: (none :: (none :: (none :: (none :: (none :: (none :: (none :: (none :: (none :: (none :: (none :: (none :: (none :: (none :: (none :: (none :: (none :: (none :: (none :: (none :: (none :: (none :: (none :: (none :: (none :: (none :: (none :: (none :: (none :: (none :: (none :: (none :: (none :: (none :: (none :: (none :: (none :: (none :: [])))))))))))))))))))))))))))))))))))))))))))))))))))))))))))))))))))))))))))))))))))))))))))))))))))))))))))))))))) (List.cons (HO.ro ((27 : Nat)) ((2 : Nat)) (p.N0) (fun j => (List.cons (SV.int (IntKind.u64) (p.F0_0 j)) (List.cons (SV.int (IntKind.u64) (p.F0_1 j)) []))) (p.O0)) (List.cons (HO.cells ((27 : Nat)) (List.cons (SV.int (IntKind.u64) (p.xh1_0)) (List.cons (SV.int (IntKind.u64) (p.xh1_1)) []))) (List.cons (HO.row ((27 : Nat)) ((2 : Nat)) (p.N2) (fun j => (List.cons (SV.int (IntKind.u64) (p.F2_0 j)) (List.cons (SV.int (IntKind.u64) (p.F2_1 j)) [])))) (List.cons (HO.row ((29 : Nat)) ((2 : Nat)) (p.N3) (fun j => (List.cons (SV.int (IntKind.u64) (p.F3_0 j)) (List.cons (SV.int (IntKind.u64) (p.F3_1 j)) [])))) (List.cons (HO.row ((29 : Nat)) ((2 : Nat)) (p.N4) (fun j => (List.cons (SV.int (IntKind.u64) (p.F4_0 j)) (List.cons (SV.int (IntKind.u64) (p.F4_1 j)) [])))) (List.cons (HO.row ((27 : Nat)) ((2 : Nat)) (p.N5) (fun j => (List.cons (SV.int (IntKind.u64) (p.F5_0 j)) (List.cons (SV.int (IntKind.u64) (p.F5_1 j)) [])))) (List.cons (HO.cells ((27 : Nat)) (List.cons (SV.int (IntKind.u64) (p.xh6_0)) (List.cons (SV.int (IntKind.u64) (p.xh6_1)) []))) [])))))))))) (Tr.need (e7_2_2 p s) (Tr.need (e7_2_3 p s) (Tr.ite (e7_2_4 p s) (Tr.need (e7_2_1 p s) (Tr.leaf (Rs.out (Ex.ret) (List.cons (Option.some (SV.slc ((0:Nat)) ((2 : Nat)) ((0:Nat)) (p.n0))) (none :: (none :: (List.cons (Option.some (SV.ptr ((1 : Nat)) ((0:Nat)))) (List.cons (Option.some (SV.bool (false))) (none :: (List.cons (Option.some (SV.slc ((4 : Nat)) ((2 : Nat)) ((0:Nat)) (p.n6))) (List.cons (Option.some (SV.slc ((5 : Nat)) ((2 : Nat)) ((0:Nat)) (p.n7))) (none :: (none :: (List.cons (Option.some (SV.int (IntKind.u64) (p.x10))) (none :: (none :: (none :: (none :: (none :: (none :: (none :: (none :: (none :: (none :: (none :: (none :: (none :: (none :: (none :: (none :: (none :: (none :: (none :: (none :: (none :: (none :: (none :: (none :: (none :: (none :: (none :: (none :: (none :: (none :: (none :: (none :: (none :: (none :: (none :: (none :: (none :: (none :: (none :: (none :: (none :: (none :: (none :: (none :: (none :: (none :: (none :: (none :: (none :: (none :: (none :: (none :: (none :: (none :: (none :: (none :: (List.cons (Option.some (SV.slc ((2 : Nat)) ((2 : Nat)) ((0:Nat)) (p.n67))) (List.cons (Option.some (SV.int (IntKind.i64) (p.x68))) (List.cons (Option.some (SV.int (IntKind.i64) (p.x69))) (none :: (none :: (none :: (none :: (none :: (none :: (none :: (none :: (none :: (none :: (none :: (none :: (none :: (none :: (none :: (none :: (none :: (none :: (none :: (none :: (none :: (none :: (none :: (none :: (none :: (none :: (none :: (none :: (none :: (none :: (none :: (none :: (none :: (none :: (none :: (none :: (none :: (none :: (none :: (none :: (none :: (none :: (none :: (none :: [])))))))))))))))))))))))))))))))))))))))))))))))))))))))))))))))))))))))))))))))))))))))))))))))))))))))))))))))))) (List.cons (HO.ro ((27 : Nat)) ((2 : Nat)) (p.N0) (fun j => (List.cons (SV.int (IntKind.u64) (p.F0_0 j)) (List.cons (SV.int (IntKind.u64) (p.F0_1 j)) []))) (p.O0)) (List.cons (HO.cells ((27 : Nat)) (List.cons (SV.int (IntKind.u64) (p.xh1_0)) (List.cons (SV.int (IntKind.u64) (p.xh1_1)) []))) (List.cons (HO.row ((27 : Nat)) ((2 : Nat)) (p.N2) (fun j => (List.cons (SV.int (IntKind.u64) (p.F2_0 j)) (List.cons (SV.int (IntKind.u64) (p.F2_1 j)) [])))) (List.cons (HO.row ((29 : Nat)) ((2 : Nat)) (p.N3) (fun j => (List.cons (SV.int (IntKind.u64) (p.F3_0 j)) (List.cons (SV.int (IntKind.u64) (p.F3_1 j)) [])))) (List.cons (HO.row ((29 : Nat)) ((2 : Nat)) (p.N4) (fun j => (List.cons (SV.int (IntKind.u64) (p.F4_0 j)) (List.cons (SV.int (IntKind.u64) (p.F4_1 j)) [])))) (List.cons (HO.row ((27 : Nat)) ((2 : Nat)) (p.N5) (fun j => (List.cons (SV.int (IntKind.u64) (p.F5_0 j)) (List.cons (SV.int (IntKind.u64) (p.F5_1 j)) [])))) (List.cons (HO.cells ((27 : Nat)) (List.cons (SV.int (IntKind.u64) (p.xh6_0)) (List.cons (SV.int (IntKind.u64) (p.xh6_1)) []))) [])))))))))) (Tr.need (e7_2_5 p s) (Tr.leaf (Rs.on (S7_2.mk ((e7_2_6 p s))))))))))
noncomputable def r7_2 (p : P7_2) (s : S7_2) : Tr (Rs th.R S7_2) := (Tr.ite (e7_2_0 p s) (Tr.leaf (Rs.out (Ex.exit ((4 : Nat))) (List.cons (Option.some (SV.slc ((0:Nat)) ((2 : Nat)) ((0:Nat)) (p.n0))) (none :: (none :: (List.cons (Option.some (SV.ptr ((1 : Nat)) ((0:Nat)))) (none :: (none :: (List.cons (Option.some (SV.slc ((4 : Nat)) ((2 : Nat)) ((0:Nat)) (p.n6))) (List.cons (Option.some (SV.slc ((5 : Nat)) ((2 : Nat)) ((0:Nat)) (p.n7))) (none :: (none :: (List.cons (Option.some (SV.int (IntKind.u64) (p.x10))) (none :: (none :: (none :: (none :: (none :: (none :: (none :: (none :: (none :: (none :: (none :: (none :: (none :: (none :: (none :: (none :: (none :: (none :: (none :: (none :: (none :: (none :: (none :: (none :: (none :: (none :: (none :: (none :: (none :: (none :: (none :: (none :: (none :: (none :: (none :: (none :: (none :: (none :: (none :: (none :: (none :: (none :: (none :: (none :: (none :: (none :: (none :: (none :: (none :: (none :: (none :: (none :: (none :: (none :: (none :: (none :: (List.cons (Option.some (SV.slc ((2 : Nat)) ((2 : Nat)) ((0:Nat)) (p.n67))) (List.cons (Option.some (SV.int (IntKind.i64) (p.x68))) (List.cons (Option.some (SV.int (IntKind.i64) (p.x69))) (none :: (none :: (none :: (none :: (none :: (none :: (none :: (none :: (none :: (none :: (none :: (none :: (none :: (none :: (none :: (none :: (none :: (none :: (none :: (none :: (none :: (none :: (none :: (none :: (none :: (none :: (none :: (none :: (none :: (none :: (none :: (none :: (none :: (none :: (none :: (none :: (none :: (none :: (none :: (none :: (none :: (none :: (none :: (none :: [])))))))))))))))))))))))))))))))))))))))))))))))))))))))))))))))))))))))))))))))))))))))))))))))))))))))))))))))))) (List.cons (HO.ro ((27 : Nat)) ((2 : Nat)) (p.N0) (fun j => (List.cons (SV.int (IntKind.u64) (p.F0_0 j)) (List.cons (SV.int (IntKind.u64) (p.F0_1 j)) []))) (p.O0)) (List.cons (HO.cells ((27 : Nat)) (List.cons (SV.int (IntKind.u64) (p.xh1_0)) (List.cons (SV.int (IntKind.u64) (p.xh1_1)) []))) (List.cons (HO.row ((27 : Nat)) ((2 : Nat)) (p.N2) (fun j => (List.cons (SV.int (IntKind.u64) (p.F2_0 j)) (List.cons (SV.int (IntKind.u64) (p.F2_1 j)) [])))) (List.cons (HO.row ((29 : Nat)) ((2 : Nat)) (p.N3) (fun j => (List.cons (SV.int (IntKind.u64) (p.F3_0 j)) (List.cons (SV.int (IntKind.u64) (p.F3_1 j)) [])))) (List.cons (HO.row ((29 : Nat)) ((2 : Nat)) (p.N4) (fun j => (List.cons (SV.int (IntKind.u64) (p.F4_0 j)) (List.cons (SV.int (IntKind.u64) (p.F4_1 j)) [])))) (List.cons (HO.row ((27 : Nat)) ((2 : Nat)) (p.N5) (fun j => (List.cons (SV.int (IntKind.u64) (p.F5_0 j)) (List.cons (SV.int (IntKind.u64) (p.F5_1 j)) [])))) (List.cons (HO.cells ((27 : Nat)) (List.cons (SV.int (IntKind.u64) (p.xh6_0)) (List.cons (SV.int (IntKind.u64) (p.xh6_1)) []))) []))))))))) (Tr.need (e7_2_2 p s) (Tr.need (e7_2_3 p s) (Tr.ite (e7_2_4 p s) (Tr.leaf (Rs.out (Ex.ret) (List.cons (Option.some (SV.slc ((0:Nat)) ((2 : Nat)) ((0:Nat)) (p.n0))) (none :: (none :: (List.cons (Option.some (SV.ptr ((1 : Nat)) ((0:Nat)))) (List.cons (Option.some (SV.bool (false))) (none :: (List.cons (Option.some (SV.slc ((4 : Nat)) ((2 : Nat)) ((0:Nat)) (p.n6))) (List.cons (Option.some (SV.slc ((5 : Nat)) ((2 : Nat)) ((0:Nat)) (p.n7))) (none :: (none :: (List.cons (Option.some (SV.int (IntKind.u64) (p.x10))) (none :: (none :: (none :: (none :: (none :: (none :: (none :: (none :: (none :: (none :: (none :: (none :: (none :: (none :: (none :: (none :: (none :: (none :: (none :: (none :: (none :: (none :: (none :: (none :: (none :: (none :: (none :: (none :: (none :: (none :: (none :: (none :: (none :: (none :: (none :: (none :: (none :: (none :: (none :: (none :: (none :: (none :: (none :: (none :: (none :: (none :: (none :: (none :: (none :: (none :: (none :: (none :: (none :: (none :: (none :: (none :: (List.cons (Option.some (SV.slc ((2 : Nat)) ((2 : Nat)) ((0:Nat)) (p.n67))) (List.cons (Option.some (SV.int (IntKind.i64) (p.x68))) (List.cons (Option.some (SV.int (IntKind.i64) (p.x69))) (none :: (none :: (none :: (none :: (none :: (none :: (none :: (none :: (none :: (none :: (none :: (none :: (none :: (none :: (none :: (none :: (none :: (none :: (none :: (none :: (none :: (none :: (none :: (none :: (none :: (none :: (none :: (none :: (none :: (none :: (none :: (none :: (none :: (none :: (none :: (none :: (none :: (none :: (none :: (none :: (none :: (none :: (none :: (none :: [])))))))))))))))))))))))))))))))))))))))))))))))))))))))))))))))))))))))))))))))))))))))))))))))))))))))))))))))))) (List.cons (HO.ro ((27 : Nat)) ((2 : Nat)) (p.N0) (fun j => (List.cons (SV.int (IntKind.u64) (p.F0_0 j)) (List.cons (SV.int (IntKind.u64) (p.F0_1 j)) []))) (p.O0)) (List.cons (HO.cells ((27 : Nat)) (List.cons (SV.int (IntKind.u64) (p.xh1_0)) (List.cons (SV.int (IntKind.u64) (p.xh1_1)) []))) (List.cons (HO.row ((27 : Nat)) ((2 : Nat)) (p.N2) (fun j => (List.cons (SV.int (IntKind.u64) (p.F2_0 j)) (List.cons (SV.int (IntKind.u64) (p.F2_1 j)) [])))) (List.cons (HO.row ((29 : Nat)) ((2 : Nat)) (p.N3) (fun j => (List.cons (SV.int (IntKind.u64) (p.F3_0 j)) (List.cons (SV.int (IntKind.u64) (p.F3_1 j)) [])))) (List.cons (HO.row ((29 : Nat)) ((2 : Nat)) (p.N4) (fun j => (List.cons (SV.int (IntKind.u64) (p.F4_0 j)) (List.cons (SV.int (IntKind.u64) (p.F4_1 j)) [])))) (List.cons (HO.row ((27 : Nat)) ((2 : Nat)) (p.N5) (fun j => (List.cons (SV.int (IntKind.u64) (p.F5_0 j)) (List.cons (SV.int (IntKind.u64) (p.F5_1 j)) [])))) (List.cons (HO.cells ((27 : Nat)) (List.cons (SV.int (IntKind.u64) (p.xh6_0)) (List.cons (SV.int (IntKind.u64) (p.xh6_1)) []))) []))))))))) (Tr.leaf (Rs.on (S7_2.mk ((e7_2_6 p s)))))))))
noncomputable def E7_2 : St th.R → Out th := evCode th Try.prog (auto th Try.prog nice29n [] 20) (autoH [] [] [] [7, 105] : Hints th) (lpAt Try.prog 7 2)
theorem B7_2 : CodeSound th Try.prog (lpAt Try.prog 7 2) E7_2 := evCode_sound (T := th) (P := Try.prog) (tbl := (auto th Try.prog nice29n [] 20)) (auto_sound (nice := nice29n) (us := []) nok29n 20) (autoH [] [] [] [7, 105] : Hints th) _ (LoopsOk_mem (fun _ => rfl) _ fun b hb L hL => by cases hL)
noncomputable def L7_2 : St th.R → Out th := loopL d7_2 ofV7_2 r7_2
theorem h1_7_2 (p : P7_2) (s : S7_2) : bld d7_2.tm (toV7_2 p s) = some (I7_2 p s) := by kernel_rfl
theorem h2_7_2 (l : List (Vl th.R)) (p : P7_2) (s : S7_2) (h : ofV7_2 l = some (p, s)) : l = toV7_2 p s := by
  unfold ofV7_2 at h
  split at h
  · cases h; rfl
  · cases h
theorem h3_7_2 (p : P7_2) (s : S7_2) : cvE d7_2 (E7_2 (I7_2 p s)) = some ((rf7_2 p s).map (Rs.map (toV7_2 p))) := by kernel_rfl
theorem h3g_7_2 (p : P7_2) (s : S7_2) : (rf7_2 p s).get = (r7_2 p s).get := by kernel_rfl
theorem h4_7_2 (p : P7_2) (s s1 : S7_2) : outH d7_2.dirt d7_2.n0 (r7_2 p s) = repH (maskH d7_2.dirt 0 d7_2.n0 (I7_2 p s1).heap) (r7_2 p s) := by kernel_rfl
theorem ls7_2 : CodeSound th Try.prog (.loop (lpAt Try.prog 7 2)) L7_2 := loopL_sound B7_2 d7_2 I7_2 toV7_2 (by kernel_rfl) h1_7_2 h2_7_2
  (fun p s => ⟨(rf7_2 p s).map (Rs.map (toV7_2 p)), h3_7_2 p s, fun h => by
    rw [Tr.map_ok]
    unfold r7_2 at h; unfold rf7_2
    simp only [Tr.ok, n_e7_2_1, n_e7_2_5, true_and, and_true, forall_const, implies_true] at h ⊢
    try exact h, by rw [Tr.map_get, h3g_7_2 p s]⟩) h4_7_2
structure P7_1 where
  n0 : Nat
  n6 : Nat
  n7 : Nat
  n67 : Nat
  x68 : Int
  N0 : Nat
  O0 : Obj
  F0_0 : Nat → Int
  F0_1 : Nat → Int
  xh1_0 : Int
  xh1_1 : Int
  N2 : Nat
  F2_0 : Nat → Int
  F2_1 : Nat → Int
  N3 : Nat
  F3_0 : Nat → Int
  F3_1 : Nat → Int
  N4 : Nat
  F4_0 : Nat → Int
  F4_1 : Nat → Int
  N5 : Nat
  F5_0 : Nat → Int
  F5_1 : Nat → Int
structure S7_1 where
  x10 : Int
  x69 : Int
instance : Inhabited S7_1 := ⟨⟨0, 0⟩⟩
def I7_1 (p : P7_1) (s : S7_1) : St th.R := ⟨[some (.slc 0 2 0 p.n0), none, none, some (.ptr 1 0), none, none, some (.slc 4 2 0 p.n6), some (.slc 5 2 0 p.n7), none, none, some (.int .u64 s.x10), none, none, none, none, none, none, none, none, none, none, none, none, none, none, none, none, none, none, none, none, none, none, none, none, none, none, none, none, none, none, none, none, none, none, none, none, none, none, none, none, none, none, none, none, none, none, none, none, none, none, none, none, none, none, none, none, some (.slc 2 2 0 p.n67), some (.int .i64 p.x68), some (.int .i64 s.x69), none, none, none, none, none, none, none, none, none, none, none, none, none, none, none, none, none, none, none, none, none, none, none, none, none, none, none, none, none, none, none, none, none, none, none, none, none, none, none, none, none, none, none, none], [.ro 27 2 p.N0 (fun j => [.int .u64 (p.F0_0 j), .int .u64 (p.F0_1 j)]) p.O0, .cells 27 [.int .u64 p.xh1_0, .int .u64 p.xh1_1], .row 27 2 p.N2 (fun j => [.int .u64 (p.F2_0 j), .int .u64 (p.F2_1 j)]), .row 29 2 p.N3 (fun j => [.int .u64 (p.F3_0 j), .int .u64 (p.F3_1 j)]), .row 29 2 p.N4 (fun j => [.int .u64 (p.F4_0 j), .int .u64 (p.F4_1 j)]), .row 27 2 p.N5 (fun j => [.int .u64 (p.F5_0 j), .int .u64 (p.F5_1 j)])], [], []⟩
def d7_1 : Lp := ⟨⟨114, [(0, .slc0 0 2), (3, .ptr 1 0), (6, .slc0 4 2), (7, .slc0 5 2), (10, .int .u64), (67, .slc0 2 2), (68, .int .i64), (69, .int .i64)], [.roc 27 [.int .u64, .int .u64], .cells 27 [.int .u64, .int .u64], .rowc 27 [.int .u64, .int .u64], .rowc 29 [.int .u64, .int .u64], .rowc 29 [.int .u64, .int .u64], .rowc 27 [.int .u64, .int .u64]]⟩, [], 6, [], [3, 4, 7, 10], []⟩
def toV7_1 (p : P7_1) (s : S7_1) : List (Vl th.R) := [.n p.n0, .n p.n6, .n p.n7, .i s.x10, .n p.n67, .i p.x68, .i s.x69, .n p.N0, .o p.O0, .c p.F0_0, .c p.F0_1, .i p.xh1_0, .i p.xh1_1, .n p.N2, .c p.F2_0, .c p.F2_1, .n p.N3, .c p.F3_0, .c p.F3_1, .n p.N4, .c p.F4_0, .c p.F4_1, .n p.N5, .c p.F5_0, .c p.F5_1]
def ofV7_1 : List (Vl th.R) → Option (P7_1 × S7_1)
  | [.n n0, .n n6, .n n7, .i x10, .n n67, .i x68, .i x69, .n N0, .o O0, .c F0_0, .c F0_1, .i xh1_0, .i xh1_1, .n N2, .c F2_0, .c F2_1, .n N3, .c F3_0, .c F3_1, .n N4, .c F4_0, .c F4_1, .n N5, .c F5_0, .c F5_1] => some (⟨n0, n6, n7, n67, x68, N0, O0, F0_0, F0_1, xh1_0, xh1_1, N2, F2_0, F2_1, N3, F3_0, F3_1, N4, F4_0, F4_1, N5, F5_0, F5_1⟩, ⟨x10, x69⟩)
  | _ => none
noncomputable def e7_1_0 (p : P7_1) (s : S7_1) : (Bool) := cnd (decide (s.x69 < p.x68)) false true
noncomputable def e7_1_1 (p : P7_1) (s : S7_1) : (Prop) := (∀ (i : Nat), scpL (0:Nat) ((fun (j : Nat) => [SV.int IntKind.u64 (p.F0_0 j), SV.int IntKind.u64 (p.F0_1 j)]) i) = true) ∧ (∀ (i : Nat), scpL (0:Nat) ((fun (j : Nat) => [SV.int IntKind.u64 (p.F2_0 j), SV.int IntKind.u64 (p.F2_1 j)]) i) = true) ∧ (∀ (i : Nat), scpL (0:Nat) ((fun (j : Nat) => [SV.int IntKind.u64 (p.F3_0 j), SV.int IntKind.u64 (p.F3_1 j)]) i) = true) ∧ (∀ (i : Nat), scpL (0:Nat) ((fun (j : Nat) => [SV.int IntKind.u64 (p.F4_0 j), SV.int IntKind.u64 (p.F4_1 j)]) i) = true) ∧ ∀ (i : Nat), scpL (0:Nat) ((fun (j : Nat) => [SV.int IntKind.u64 (p.F5_0 j), SV.int IntKind.u64 (p.F5_1 j)]) i) = true
noncomputable def e7_1_2 (p : P7_1) (s : S7_1) : (Prop) := (0 : Int) ≤ s.x69 ∧ s.x69 < (↑p.n67 : Int)
noncomputable def e7_1_3 (p : P7_1) (s : S7_1) : (Prop) := (0:Nat) + s.x69.toNat < p.N2
noncomputable def e7_1_4 (p : P7_1) (s : S7_1) : (Prop) := (true = true → (0 : Int) ≤ s.x69 ∧ s.x69 < (↑p.n6 : Int)) ∧ (true = true → (0:Nat) + s.x69.toNat < p.N4)
noncomputable def e7_1_5 (p : P7_1) (s : S7_1) : (Bool) := cnd (!(p.F2_0 ((0:Nat) + s.x69.toNat) == p.F4_0 ((0:Nat) + s.x69.toNat) && (p.F2_1 ((0:Nat) + s.x69.toNat) == p.F4_1 ((0:Nat) + s.x69.toNat) && true))) true !f15_0 (p.F2_0 ((0:Nat) + s.x69.toNat)) (p.F2_1 ((0:Nat) + s.x69.toNat)) p.xh1_0 p.xh1_1
noncomputable def e7_1_6 (p : P7_1) (s : S7_1) : (Prop) := (∀ (i : Nat), i < p.N0 → (fun (j : Nat) => [SV.int IntKind.u64 (p.F0_0 j), SV.int IntKind.u64 (p.F0_1 j)]) i = elC (fun (j : Nat) => [SV.int IntKind.u64 (p.F0_0 j), SV.int IntKind.u64 (p.F0_1 j)]) (0:Nat) [Ck.int IntKind.u64, Ck.int IntKind.u64] i) ∧ (∀ (i : Nat), i < p.N2 → (fun (j : Nat) => [SV.int IntKind.u64 (p.F2_0 j), SV.int IntKind.u64 (p.F2_1 j)]) i = elC (fun (j : Nat) => [SV.int IntKind.u64 (p.F2_0 j), SV.int IntKind.u64 (p.F2_1 j)]) (0:Nat) [Ck.int IntKind.u64, Ck.int IntKind.u64] i) ∧ (∀ (i : Nat), i < p.N3 → (fun (j : Nat) => [SV.int IntKind.u64 (p.F3_0 j), SV.int IntKind.u64 (p.F3_1 j)]) i = elC (fun (j : Nat) => [SV.int IntKind.u64 (p.F3_0 j), SV.int IntKind.u64 (p.F3_1 j)]) (0:Nat) [Ck.int IntKind.u64, Ck.int IntKind.u64] i) ∧ (∀ (i : Nat), i < p.N4 → (fun (j : Nat) => [SV.int IntKind.u64 (p.F4_0 j), SV.int IntKind.u64 (p.F4_1 j)]) i = elC (fun (j : Nat) => [SV.int IntKind.u64 (p.F4_0 j), SV.int IntKind.u64 (p.F4_1 j)]) (0:Nat) [Ck.int IntKind.u64, Ck.int IntKind.u64] i) ∧ ∀ (i : Nat), i < p.N5 → (fun (j : Nat) => [SV.int IntKind.u64 (p.F5_0 j), SV.int IntKind.u64 (p.F5_1 j)]) i = elC (fun (j : Nat) => [SV.int IntKind.u64 (p.F5_0 j), SV.int IntKind.u64 (p.F5_1 j)]) (0:Nat) [Ck.int IntKind.u64, Ck.int IntKind.u64] i
noncomputable def e7_1_7 (p : P7_1) (s : S7_1) : (Prop) := LT (r7_2 (P7_2.mk p.n0 p.n6 p.n7 (IntKind.u64.wrap (s.x10 + IntKind.u64.wrap (p.F2_1 ((0:Nat) + s.x69.toNat) - p.F2_0 ((0:Nat) + s.x69.toNat)))) p.n67 p.x68 s.x69 p.n0 (↑p.n0 : Int) p.N0 p.O0 p.F0_0 p.F0_1 p.xh1_0 p.xh1_1 p.N2 p.F2_0 p.F2_1 p.N3 p.F3_0 p.F3_1 p.N4 p.F4_0 p.F4_1 p.N5 p.F5_0 p.F5_1 (p.F2_0 ((0:Nat) + s.x69.toNat)) (p.F2_1 ((0:Nat) + s.x69.toNat)))) (S7_2.mk (0 : Int))
noncomputable def e7_1_8 (p : P7_1) (s : S7_1) : (Bool) := cnd (e7_2_0 (P7_2.mk p.n0 p.n6 p.n7 (IntKind.u64.wrap (s.x10 + IntKind.u64.wrap (p.F2_1 ((0:Nat) + s.x69.toNat) - p.F2_0 ((0:Nat) + s.x69.toNat)))) p.n67 p.x68 s.x69 p.n0 (↑p.n0 : Int) p.N0 p.O0 p.F0_0 p.F0_1 p.xh1_0 p.xh1_1 p.N2 p.F2_0 p.F2_1 p.N3 p.F3_0 p.F3_1 p.N4 p.F4_0 p.F4_1 p.N5 p.F5_0 p.F5_1 (p.F2_0 ((0:Nat) + s.x69.toNat)) (p.F2_1 ((0:Nat) + s.x69.toNat))) (lastS (r7_2 (P7_2.mk p.n0 p.n6 p.n7 (IntKind.u64.wrap (s.x10 + IntKind.u64.wrap (p.F2_1 ((0:Nat) + s.x69.toNat) - p.F2_0 ((0:Nat) + s.x69.toNat)))) p.n67 p.x68 s.x69 p.n0 (↑p.n0 : Int) p.N0 p.O0 p.F0_0 p.F0_1 p.xh1_0 p.xh1_1 p.N2 p.F2_0 p.F2_1 p.N3 p.F3_0 p.F3_1 p.N4 p.F4_0 p.F4_1 p.N5 p.F5_0 p.F5_1 (p.F2_0 ((0:Nat) + s.x69.toNat)) (p.F2_1 ((0:Nat) + s.x69.toNat)))) (S7_2.mk (0 : Int)))) false true
noncomputable def e7_1_9 (p : P7_1) (s : S7_1) : (Int) := IntKind.u64.wrap (s.x10 + IntKind.u64.wrap (p.F2_1 ((0:Nat) + s.x69.toNat) - p.F2_0 ((0:Nat) + s.x69.toNat)))
noncomputable def e7_1_10 (p : P7_1) (s : S7_1) : (Prop) := ((∀ (i : Nat), scpL (0:Nat) ((fun (j : Nat) => [SV.int IntKind.u64 (p.F0_0 j), SV.int IntKind.u64 (p.F0_1 j)]) i) = true) ∧ (∀ (i : Nat), scpL (0:Nat) ((fun (j : Nat) => [SV.int IntKind.u64 (p.F2_0 j), SV.int IntKind.u64 (p.F2_1 j)]) i) = true) ∧ (∀ (i : Nat), scpL (0:Nat) ((fun (j : Nat) => [SV.int IntKind.u64 (p.F3_0 j), SV.int IntKind.u64 (p.F3_1 j)]) i) = true) ∧ (∀ (i : Nat), scpL (0:Nat) ((fun (j : Nat) => [SV.int IntKind.u64 (p.F4_0 j), SV.int IntKind.u64 (p.F4_1 j)]) i) = true) ∧ ∀ (i : Nat), scpL (0:Nat) ((fun (j : Nat) => [SV.int IntKind.u64 (p.F5_0 j), SV.int IntKind.u64 (p.F5_1 j)]) i) = true) ∧ (∀ (i : Nat), i < p.N0 → (fun (j : Nat) => [SV.int IntKind.u64 (p.F0_0 j), SV.int IntKind.u64 (p.F0_1 j)]) i = elC (fun (j : Nat) => [SV.int IntKind.u64 (p.F0_0 j), SV.int IntKind.u64 (p.F0_1 j)]) (0:Nat) [Ck.int IntKind.u64, Ck.int IntKind.u64] i) ∧ (∀ (i : Nat), i < p.N2 → (fun (j : Nat) => [SV.int IntKind.u64 (p.F2_0 j), SV.int IntKind.u64 (p.F2_1 j)]) i = elC (fun (j : Nat) => [SV.int IntKind.u64 (p.F2_0 j), SV.int IntKind.u64 (p.F2_1 j)]) (0:Nat) [Ck.int IntKind.u64, Ck.int IntKind.u64] i) ∧ (∀ (i : Nat), i < p.N3 → (fun (j : Nat) => [SV.int IntKind.u64 (p.F3_0 j), SV.int IntKind.u64 (p.F3_1 j)]) i = elC (fun (j : Nat) => [SV.int IntKind.u64 (p.F3_0 j), SV.int IntKind.u64 (p.F3_1 j)]) (0:Nat) [Ck.int IntKind.u64, Ck.int IntKind.u64] i) ∧ (∀ (i : Nat), i < p.N4 → (fun (j : Nat) => [SV.int IntKind.u64 (p.F4_0 j), SV.int IntKind.u64 (p.F4_1 j)]) i = elC (fun (j : Nat) => [SV.int IntKind.u64 (p.F4_0 j), SV.int IntKind.u64 (p.F4_1 j)]) (0:Nat) [Ck.int IntKind.u64, Ck.int IntKind.u64] i) ∧ ∀ (i : Nat), i < p.N5 → (fun (j : Nat) => [SV.int IntKind.u64 (p.F5_0 j), SV.int IntKind.u64 (p.F5_1 j)]) i = elC (fun (j : Nat) => [SV.int IntKind.u64 (p.F5_0 j), SV.int IntKind.u64 (p.F5_1 j)]) (0:Nat) [Ck.int IntKind.u64, Ck.int IntKind.u64] i
noncomputable def e7_1_11 (p : P7_1) (s : S7_1) : (Int) := IntKind.i64.wrap (s.x69 + (1 : Int))
theorem n_e7_1_1 (p : P7_1) (s : S7_1) : e7_1_1 p s := by
  unfold e7_1_1
  first
    | (intros; rfl)
    | (intro i; rfl)
    | (intro i _; rfl)
    | (intro _ i; rfl)
    | (intro _ i _; rfl)
    | (refine ⟨?_, ?_⟩ <;> intro i <;> rfl)
    | (refine ⟨?_, ?_, ?_⟩ <;> intro i <;> rfl)
    | (refine ⟨?_, ?_⟩ <;> intro i _ <;> rfl)
    | (repeat' apply And.intro) <;> first | (intro i; rfl) | (intro i _; rfl) | (intro i h; exact absurd h (Nat.not_lt_zero i)) | (intro i; exact scpL_rowSet (by rfl) (by rfl)) | (intro i; exact scpL_rowEl (by kernel_rfl) _)
    | (intros; (repeat' apply And.intro) <;> intros <;> first | rfl | (exact absurd (by assumption) (Nat.not_lt_zero _)))
    | omega
    | decide
theorem n_e7_1_6 (p : P7_1) (s : S7_1) : e7_1_6 p s := by
  unfold e7_1_6
  first
    | (intros; rfl)
    | (intro i; rfl)
    | (intro i _; rfl)
    | (intro _ i; rfl)
    | (intro _ i _; rfl)
    | (refine ⟨?_, ?_⟩ <;> intro i <;> rfl)
    | (refine ⟨?_, ?_, ?_⟩ <;> intro i <;> rfl)
    | (refine ⟨?_, ?_⟩ <;> intro i _ <;> rfl)
    | (repeat' apply And.intro) <;> first | (intro i; rfl) | (intro i _; rfl) | (intro i h; exact absurd h (Nat.not_lt_zero i)) | (intro i; exact scpL_rowSet (by rfl) (by rfl)) | (intro i; exact scpL_rowEl (by kernel_rfl) _)
    | (intros; (repeat' apply And.intro) <;> intros <;> first | rfl | (exact absurd (by assumption) (Nat.not_lt_zero _)))
    | omega
    | decide
theorem n_e7_1_10 (p : P7_1) (s : S7_1) : e7_1_10 p s := by
  unfold e7_1_10
  first
    | (intros; rfl)
    | (intro i; rfl)
    | (intro i _; rfl)
    | (intro _ i; rfl)
    | (intro _ i _; rfl)
    | (refine ⟨?_, ?_⟩ <;> intro i <;> rfl)
    | (refine ⟨?_, ?_, ?_⟩ <;> intro i <;> rfl)
    | (refine ⟨?_, ?_⟩ <;> intro i _ <;> rfl)
    | (repeat' apply And.intro) <;> first | (intro i; rfl) | (intro i _; rfl) | (intro i h; exact absurd h (Nat.not_lt_zero i)) | (intro i; exact scpL_rowSet (by rfl) (by rfl)) | (intro i; exact scpL_rowEl (by kernel_rfl) _)
    | (intros; (repeat' apply And.intro) <;> intros <;> first | rfl | (exact absurd (by assumption) (Nat.not_lt_zero _)))
    | omega
    | decide
noncomputable def rf7_1 (p : P7_1) (s : S7_1) : Tr (Rs th.R S7_1) := (Tr.ite (e7_1_0 p s) (Tr.need (e7_1_1 p s) (Tr.leaf (Rs.out (Ex.exit ((2 : Nat))) (none :: (none :: (none :: (List.cons (Option.some (SV.ptr ((1 : Nat)) ((0:Nat)))) (none :: (none :: (none :: (List.cons (Option.some (SV.slc ((5 : Nat)) ((2 : Nat)) ((0:Nat)) (p.n7))) (none :: (none :: (List.cons (Option.some (SV.int (IntKind.u64) (s.x10))) (none :: (none :: (none :: (none :: (none :: (none :: (none :: (none :: (none :: (none :: (none :: (none :: (none :: (none :: (none :: (none :: (none :: (none :: (none :: (none :: (none :: (none :: (none :: (none :: (none :: (none :: (none :: (none :: (none :: (none :: (none :: (none :: (none :: (none :: (none :: (none :: (none :: (none :: (none :: (none :: (none :: (none :: (none :: (none :: (none :: (none :: (none :: (none :: (none :: (none :: (none :: (none :: (none :: (none :: (none :: (none :: (none :: (none :: (none :: (none :: (none :: (none :: (none :: (none :: (none :: (none :: (none :: (none :: (none :: (none :: (none :: (none :: (none :: (none :: (none :: (none :: (none :: (none :: (none :: (none :: (none :: (none :: (none :: (none :: (none :: (none :: (none :: (none :: (none :: (none :: (none :: (none :: (none :: (none :: (none :: (none :: (none :: (none :: (none :: (none :: (none :: (none :: (none :: [])))))))))))))))))))))))))))))))))))))))))))))))))))))))))))))))))))))))))))))))))))))))))))))))))))))))))))))))))) (List.cons (HO.ro ((27 : Nat)) ((2 : Nat)) (p.N0) (fun j => (List.cons (SV.int (IntKind.u64) (p.F0_0 j)) (List.cons (SV.int (IntKind.u64) (p.F0_1 j)) []))) (p.O0)) (List.cons (HO.cells ((27 : Nat)) (List.cons (SV.int (IntKind.u64) (p.xh1_0)) (List.cons (SV.int (IntKind.u64) (p.xh1_1)) []))) (List.cons (HO.row ((27 : Nat)) ((2 : Nat)) (p.N2) (fun j => (List.cons (SV.int (IntKind.u64) (p.F2_0 j)) (List.cons (SV.int (IntKind.u64) (p.F2_1 j)) [])))) (List.cons (HO.row ((29 : Nat)) ((2 : Nat)) (p.N3) (fun j => (List.cons (SV.int (IntKind.u64) (p.F3_0 j)) (List.cons (SV.int (IntKind.u64) (p.F3_1 j)) [])))) (List.cons (HO.row ((29 : Nat)) ((2 : Nat)) (p.N4) (fun j => (List.cons (SV.int (IntKind.u64) (p.F4_0 j)) (List.cons (SV.int (IntKind.u64) (p.F4_1 j)) [])))) (List.cons (HO.row ((27 : Nat)) ((2 : Nat)) (p.N5) (fun j => (List.cons (SV.int (IntKind.u64) (p.F5_0 j)) (List.cons (SV.int (IntKind.u64) (p.F5_1 j)) [])))) []))))))))) (Tr.need (e7_1_2 p s) (Tr.need (e7_1_3 p s) (Tr.need (e7_1_4 p s) (Tr.ite (e7_1_5 p s) (Tr.need (e7_1_1 p s) (Tr.leaf (Rs.out (Ex.ret) (none :: (none :: (none :: (List.cons (Option.some (SV.ptr ((1 : Nat)) ((0:Nat)))) (List.cons (Option.some (SV.bool (false))) (none :: (none :: (List.cons (Option.some (SV.slc ((5 : Nat)) ((2 : Nat)) ((0:Nat)) (p.n7))) (none :: (none :: (List.cons (Option.some (SV.int (IntKind.u64) (s.x10))) (none :: (none :: (none :: (none :: (none :: (none :: (none :: (none :: (none :: (none :: (none :: (none :: (none :: (none :: (none :: (none :: (none :: (none :: (none :: (none :: (none :: (none :: (none :: (none :: (none :: (none :: (none :: (none :: (none :: (none :: (none :: (none :: (none :: (none :: (none :: (none :: (none :: (none :: (none :: (none :: (none :: (none :: (none :: (none :: (none :: (none :: (none :: (none :: (none :: (none :: (none :: (none :: (none :: (none :: (none :: (none :: (none :: (none :: (none :: (none :: (none :: (none :: (none :: (none :: (none :: (none :: (none :: (none :: (none :: (none :: (none :: (none :: (none :: (none :: (none :: (none :: (none :: (none :: (none :: (none :: (none :: (none :: (none :: (none :: (none :: (none :: (none :: (none :: (none :: (none :: (none :: (none :: (none :: (none :: (none :: (none :: (none :: (none :: (none :: (none :: (none :: (none :: (none :: [])))))))))))))))))))))))))))))))))))))))))))))))))))))))))))))))))))))))))))))))))))))))))))))))))))))))))))))))))) (List.cons (HO.ro ((27 : Nat)) ((2 : Nat)) (p.N0) (fun j => (List.cons (SV.int (IntKind.u64) (p.F0_0 j)) (List.cons (SV.int (IntKind.u64) (p.F0_1 j)) []))) (p.O0)) (List.cons (HO.cells ((27 : Nat)) (List.cons (SV.int (IntKind.u64) (p.xh1_0)) (List.cons (SV.int (IntKind.u64) (p.xh1_1)) []))) (List.cons (HO.row ((27 : Nat)) ((2 : Nat)) (p.N2) (fun j => (List.cons (SV.int (IntKind.u64) (p.F2_0 j)) (List.cons (SV.int (IntKind.u64) (p.F2_1 j)) [])))) (List.cons (HO.row ((29 : Nat)) ((2 : Nat)) (p.N3) (fun j => (List.cons (SV.int (IntKind.u64) (p.F3_0 j)) (List.cons (SV.int (IntKind.u64) (p.F3_1 j)) [])))) (List.cons (HO.row ((29 : Nat)) ((2 : Nat)) (p.N4) (fun j => (List.cons (SV.int (IntKind.u64) (p.F4_0 j)) (List.cons (SV.int (IntKind.u64) (p.F4_1 j)) [])))) (List.cons (HO.row ((27 : Nat)) ((2 : Nat)) (p.N5) (fun j => (List.cons (SV.int (IntKind.u64) (p.F5_0 j)) (List.cons (SV.int (IntKind.u64) (p.F5_1 j)) [])))) []))))))))) (Tr.need (e7_1_6 p s) (Tr.need (e7_1_7 p s) (Tr.ite (e7_1_8 p s) (Tr.need (e7_1_1 p s) (Tr.leaf (Rs.out (Ex.ret) (none :: (none :: (none :: (List.cons (Option.some (SV.ptr ((1 : Nat)) ((0:Nat)))) (List.cons (Option.some (SV.bool (false))) (none :: (none :: (List.cons (Option.some (SV.slc ((5 : Nat)) ((2 : Nat)) ((0:Nat)) (p.n7))) (none :: (none :: (List.cons (Option.some (SV.int (IntKind.u64) (e7_1_9 p s))) (none :: (none :: (none :: (none :: (none :: (none :: (none :: (none :: (none :: (none :: (none :: (none :: (none :: (none :: (none :: (none :: (none :: (none :: (none :: (none :: (none :: (none :: (none :: (none :: (none :: (none :: (none :: (none :: (none :: (none :: (none :: (none :: (none :: (none :: (none :: (none :: (none :: (none :: (none :: (none :: (none :: (none :: (none :: (none :: (none :: (none :: (none :: (none :: (none :: (none :: (none :: (none :: (none :: (none :: (none :: (none :: (none :: (none :: (none :: (none :: (none :: (none :: (none :: (none :: (none :: (none :: (none :: (none :: (none :: (none :: (none :: (none :: (none :: (none :: (none :: (none :: (none :: (none :: (none :: (none :: (none :: (none :: (none :: (none :: (none :: (none :: (none :: (none :: (none :: (none :: (none :: (none :: (none :: (none :: (none :: (none :: (none :: (none :: (none :: (none :: (none :: (none :: (none :: [])))))))))))))))))))))))))))))))))))))))))))))))))))))))))))))))))))))))))))))))))))))))))))))))))))))))))))))))))) (List.cons (HO.ro ((27 : Nat)) ((2 : Nat)) (p.N0) (fun j => (List.cons (SV.int (IntKind.u64) (p.F0_0 j)) (List.cons (SV.int (IntKind.u64) (p.F0_1 j)) []))) (p.O0)) (List.cons (HO.cells ((27 : Nat)) (List.cons (SV.int (IntKind.u64) (p.xh1_0)) (List.cons (SV.int (IntKind.u64) (p.xh1_1)) []))) (List.cons (HO.row ((27 : Nat)) ((2 : Nat)) (p.N2) (fun j => (List.cons (SV.int (IntKind.u64) (p.F2_0 j)) (List.cons (SV.int (IntKind.u64) (p.F2_1 j)) [])))) (List.cons (HO.row ((29 : Nat)) ((2 : Nat)) (p.N3) (fun j => (List.cons (SV.int (IntKind.u64) (p.F3_0 j)) (List.cons (SV.int (IntKind.u64) (p.F3_1 j)) [])))) (List.cons (HO.row ((29 : Nat)) ((2 : Nat)) (p.N4) (fun j => (List.cons (SV.int (IntKind.u64) (p.F4_0 j)) (List.cons (SV.int (IntKind.u64) (p.F4_1 j)) [])))) (List.cons (HO.row ((27 : Nat)) ((2 : Nat)) (p.N5) (fun j => (List.cons (SV.int (IntKind.u64) (p.F5_0 j)) (List.cons (SV.int (IntKind.u64) (p.F5_1 j)) [])))) []))))))))) (Tr.need (e7_1_10 p s) (Tr.leaf (Rs.on (S7_1.mk ((e7_1_9 p s)) ((e7_1_11 p s))))))))))))))
noncomputable def r7_1 (p : P7_1) (s : S7_1) : Tr (Rs th.R S7_1) := (Tr.ite (e7_1_0 p s) (Tr.leaf (Rs.out (Ex.exit ((2 : Nat))) (none :: (none :: (none :: (List.cons (Option.some (SV.ptr ((1 : Nat)) ((0:Nat)))) (none :: (none :: (none :: (List.cons (Option.some (SV.slc ((5 : Nat)) ((2 : Nat)) ((0:Nat)) (p.n7))) (none :: (none :: (List.cons (Option.some (SV.int (IntKind.u64) (s.x10))) (none :: (none :: (none :: (none :: (none :: (none :: (none :: (none :: (none :: (none :: (none :: (none :: (none :: (none :: (none :: (none :: (none :: (none :: (none :: (none :: (none :: (none :: (none :: (none :: (none :: (none :: (none :: (none :: (none :: (none :: (none :: (none :: (none :: (none :: (none :: (none :: (none :: (none :: (none :: (none :: (none :: (none :: (none :: (none :: (none :: (none :: (none :: (none :: (none :: (none :: (none :: (none :: (none :: (none :: (none :: (none :: (none :: (none :: (none :: (none :: (none :: (none :: (none :: (none :: (none :: (none :: (none :: (none :: (none :: (none :: (none :: (none :: (none :: (none :: (none :: (none :: (none :: (none :: (none :: (none :: (none :: (none :: (none :: (none :: (none :: (none :: (none :: (none :: (none :: (none :: (none :: (none :: (none :: (none :: (none :: (none :: (none :: (none :: (none :: (none :: (none :: (none :: (none :: [])))))))))))))))))))))))))))))))))))))))))))))))))))))))))))))))))))))))))))))))))))))))))))))))))))))))))))))))))) (List.cons (HO.ro ((27 : Nat)) ((2 : Nat)) (p.N0) (fun j => (List.cons (SV.int (IntKind.u64) (p.F0_0 j)) (List.cons (SV.int (IntKind.u64) (p.F0_1 j)) []))) (p.O0)) (List.cons (HO.cells ((27 : Nat)) (List.cons (SV.int (IntKind.u64) (p.xh1_0)) (List.cons (SV.int (IntKind.u64) (p.xh1_1)) []))) (List.cons (HO.row ((27 : Nat)) ((2 : Nat)) (p.N2) (fun j => (List.cons (SV.int (IntKind.u64) (p.F2_0 j)) (List.cons (SV.int (IntKind.u64) (p.F2_1 j)) [])))) (List.cons (HO.row ((29 : Nat)) ((2 : Nat)) (p.N3) (fun j => (List.cons (SV.int (IntKind.u64) (p.F3_0 j)) (List.cons (SV.int (IntKind.u64) (p.F3_1 j)) [])))) (List.cons (HO.row ((29 : Nat)) ((2 : Nat)) (p.N4) (fun j => (List.cons (SV.int (IntKind.u64) (p.F4_0 j)) (List.cons (SV.int (IntKind.u64) (p.F4_1 j)) [])))) (List.cons (HO.row ((27 : Nat)) ((2 : Nat)) (p.N5) (fun j => (List.cons (SV.int (IntKind.u64) (p.F5_0 j)) (List.cons (SV.int (IntKind.u64) (p.F5_1 j)) [])))) [])))))))) (Tr.need (e7_1_2 p s) (Tr.need (e7_1_3 p s) (Tr.need (e7_1_4 p s) (Tr.ite (e7_1_5 p s) (Tr.leaf (Rs.out (Ex.ret) (none :: (none :: (none :: (List.cons (Option.some (SV.ptr ((1 : Nat)) ((0:Nat)))) (List.cons (Option.some (SV.bool (false))) (none :: (none :: (List.cons (Option.some (SV.slc ((5 : Nat)) ((2 : Nat)) ((0:Nat)) (p.n7))) (none :: (none :: (List.cons (Option.some (SV.int (IntKind.u64) (s.x10))) (none :: (none :: (none :: (none :: (none :: (none :: (none :: (none :: (none :: (none :: (none :: (none :: (none :: (none :: (none :: (none :: (none :: (none :: (none :: (none :: (none :: (none :: (none :: (none :: (none :: (none :: (none :: (none :: (none :: (none :: (none :: (none :: (none :: (none :: (none :: (none :: (none :: (none :: (none :: (none :: (none :: (none :: (none :: (none :: (none :: (none :: (none :: (none :: (none :: (none :: (none :: (none :: (none :: (none :: (none :: (none :: (none :: (none :: (none :: (none :: (none :: (none :: (none :: (none :: (none :: (none :: (none :: (none :: (none :: (none :: (none :: (none :: (none :: (none :: (none :: (none :: (none :: (none :: (none :: (none :: (none :: (none :: (none :: (none :: (none :: (none :: (none :: (none :: (none :: (none :: (none :: (none :: (none :: (none :: (none :: (none :: (none :: (none :: (none :: (none :: (none :: (none :: (none :: [])))))))))))))))))))))))))))))))))))))))))))))))))))))))))))))))))))))))))))))))))))))))))))))))))))))))))))))))))) (List.cons (HO.ro ((27 : Nat)) ((2 : Nat)) (p.N0) (fun j => (List.cons (SV.int (IntKind.u64) (p.F0_0 j)) (List.cons (SV.int (IntKind.u64) (p.F0_1 j)) []))) (p.O0)) (List.cons (HO.cells ((27 : Nat)) (List.cons (SV.int (IntKind.u64) (p.xh1_0)) (List.cons (SV.int (IntKind.u64) (p.xh1_1)) []))) (List.cons (HO.row ((27 : Nat)) ((2 : Nat)) (p.N2) (fun j => (List.cons (SV.int (IntKind.u64) (p.F2_0 j)) (List.cons (SV.int (IntKind.u64) (p.F2_1 j)) [])))) (List.cons (HO.row ((29 : Nat)) ((2 : Nat)) (p.N3) (fun j => (List.cons (SV.int (IntKind.u64) (p.F3_0 j)) (List.cons (SV.int (IntKind.u64) (p.F3_1 j)) [])))) (List.cons (HO.row ((29 : Nat)) ((2 : Nat)) (p.N4) (fun j => (List.cons (SV.int (IntKind.u64) (p.F4_0 j)) (List.cons (SV.int (IntKind.u64) (p.F4_1 j)) [])))) (List.cons (HO.row ((27 : Nat)) ((2 : Nat)) (p.N5) (fun j => (List.cons (SV.int (IntKind.u64) (p.F5_0 j)) (List.cons (SV.int (IntKind.u64) (p.F5_1 j)) [])))) [])))))))) (Tr.need (e7_1_7 p s) (Tr.ite (e7_1_8 p s) (Tr.leaf (Rs.out (Ex.ret) (none :: (none :: (none :: (List.cons (Option.some (SV.ptr ((1 : Nat)) ((0:Nat)))) (List.cons (Option.some (SV.bool (false))) (none :: (none :: (List.cons (Option.some (SV.slc ((5 : Nat)) ((2 : Nat)) ((0:Nat)) (p.n7))) (none :: (none :: (List.cons (Option.some (SV.int (IntKind.u64) (e7_1_9 p s))) (none :: (none :: (none :: (none :: (none :: (none :: (none :: (none :: (none :: (none :: (none :: (none :: (none :: (none :: (none :: (none :: (none :: (none :: (none :: (none :: (none :: (none :: (none :: (none :: (none :: (none :: (none :: (none :: (none :: (none :: (none :: (none :: (none :: (none :: (none :: (none :: (none :: (none :: (none :: (none :: (none :: (none :: (none :: (none :: (none :: (none :: (none :: (none :: (none :: (none :: (none :: (none :: (none :: (none :: (none :: (none :: (none :: (none :: (none :: (none :: (none :: (none :: (none :: (none :: (none :: (none :: (none :: (none :: (none :: (none :: (none :: (none :: (none :: (none :: (none :: (none :: (none :: (none :: (none :: (none :: (none :: (none :: (none :: (none :: (none :: (none :: (none :: (none :: (none :: (none :: (none :: (none :: (none :: (none :: (none :: (none :: (none :: (none :: (none :: (none :: (none :: (none :: (none :: [])))))))))))))))))))))))))))))))))))))))))))))))))))))))))))))))))))))))))))))))))))))))))))))))))))))))))))))))))) (List.cons (HO.ro ((27 : Nat)) ((2 : Nat)) (p.N0) (fun j => (List.cons (SV.int (IntKind.u64) (p.F0_0 j)) (List.cons (SV.int (IntKind.u64) (p.F0_1 j)) []))) (p.O0)) (List.cons (HO.cells ((27 : Nat)) (List.cons (SV.int (IntKind.u64) (p.xh1_0)) (List.cons (SV.int (IntKind.u64) (p.xh1_1)) []))) (List.cons (HO.row ((27 : Nat)) ((2 : Nat)) (p.N2) (fun j => (List.cons (SV.int (IntKind.u64) (p.F2_0 j)) (List.cons (SV.int (IntKind.u64) (p.F2_1 j)) [])))) (List.cons (HO.row ((29 : Nat)) ((2 : Nat)) (p.N3) (fun j => (List.cons (SV.int (IntKind.u64) (p.F3_0 j)) (List.cons (SV.int (IntKind.u64) (p.F3_1 j)) [])))) (List.cons (HO.row ((29 : Nat)) ((2 : Nat)) (p.N4) (fun j => (List.cons (SV.int (IntKind.u64) (p.F4_0 j)) (List.cons (SV.int (IntKind.u64) (p.F4_1 j)) [])))) (List.cons (HO.row ((27 : Nat)) ((2 : Nat)) (p.N5) (fun j => (List.cons (SV.int (IntKind.u64) (p.F5_0 j)) (List.cons (SV.int (IntKind.u64) (p.F5_1 j)) [])))) [])))))))) (Tr.leaf (Rs.on (S7_1.mk ((e7_1_9 p s)) ((e7_1_11 p s))))))))))))
noncomputable def E7_1 : St th.R → Out th := evCode th Try.prog (auto th Try.prog nice29n [] 20) (autoH [(26, L7_2)] [] [] [7, 105] : Hints th) (lpAt Try.prog 7 1)
theorem ok7_1 : LoopsOk th Try.prog (autoH [(26, L7_2)] [] [] [7, 105] : Hints th) (lpAt Try.prog 7 1) := autoH_ok (bs := [lpAt Try.prog 7 2]) (by kernel_rfl) fun b hb L hL => by
  simp only [List.mem_cons, List.not_mem_nil, or_false] at hb
  rcases hb with rfl
  · have e : lookL [(26, L7_2)] (firstReg (lpAt Try.prog 7 2)) = some L7_2 := by kernel_rfl
    rw [e] at hL; cases hL
    exact ls7_2
theorem B7_1 : CodeSound th Try.prog (lpAt Try.prog 7 1) E7_1 := evCode_sound (T := th) (P := Try.prog) (tbl := (auto th Try.prog nice29n [] 20)) (auto_sound (nice := nice29n) (us := []) nok29n 20) (autoH [(26, L7_2)] [] [] [7, 105] : Hints th) _ ok7_1
noncomputable def L7_1 : St th.R → Out th := loopL d7_1 ofV7_1 r7_1
theorem h1_7_1 (p : P7_1) (s : S7_1) : bld d7_1.tm (toV7_1 p s) = some (I7_1 p s) := by kernel_rfl
theorem h2_7_1 (l : List (Vl th.R)) (p : P7_1) (s : S7_1) (h : ofV7_1 l = some (p, s)) : l = toV7_1 p s := by
  unfold ofV7_1 at h
  split at h
  · cases h; rfl
  · cases h
theorem h3_7_1 (p : P7_1) (s : S7_1) : cvE d7_1 (E7_1 (I7_1 p s)) = some ((rf7_1 p s).map (Rs.map (toV7_1 p))) := by kernel_rfl
theorem h3g_7_1 (p : P7_1) (s : S7_1) : (rf7_1 p s).get = (r7_1 p s).get := by kernel_rfl
theorem h4_7_1 (p : P7_1) (s s1 : S7_1) : outH d7_1.dirt d7_1.n0 (r7_1 p s) = repH (maskH d7_1.dirt 0 d7_1.n0 (I7_1 p s1).heap) (r7_1 p s) := by kernel_rfl
theorem ls7_1 : CodeSound th Try.prog (.loop (lpAt Try.prog 7 1)) L7_1 := loopL_sound B7_1 d7_1 I7_1 toV7_1 (by kernel_rfl) h1_7_1 h2_7_1
  (fun p s => ⟨(rf7_1 p s).map (Rs.map (toV7_1 p)), h3_7_1 p s, fun h => by
    rw [Tr.map_ok]
    unfold r7_1 at h; unfold rf7_1
    simp only [Tr.ok, n_e7_1_1, n_e7_1_6, n_e7_1_10, true_and, and_true, forall_const, implies_true] at h ⊢
    try exact h, by rw [Tr.map_get, h3g_7_1 p s]⟩) h4_7_1
theorem ok7 : LoopsOk th Try.prog (autoH [(13, L7_0), (20, L7_1)] [] [] [7, 105] : Hints th) (bodyOf Try.prog 7) := autoH_ok (bs := [lpAt Try.prog 7 0, lpAt Try.prog 7 1, lpAt Try.prog 7 2]) (by kernel_rfl) fun b hb L hL => by
  simp only [List.mem_cons, List.not_mem_nil, or_false] at hb
  rcases hb with rfl | rfl | rfl
  · have e : lookL [(13, L7_0), (20, L7_1)] (firstReg (lpAt Try.prog 7 0)) = some L7_0 := by kernel_rfl
    rw [e] at hL; cases hL
    exact ls7_0
  · have e : lookL [(13, L7_0), (20, L7_1)] (firstReg (lpAt Try.prog 7 1)) = some L7_1 := by kernel_rfl
    rw [e] at hL; cases hL
    exact ls7_1
  · have e : lookL [(13, L7_0), (20, L7_1)] (firstReg (lpAt Try.prog 7 2)) = (none : Option (St th.R → Out th)) := by kernel_rfl
    rw [e] at hL; cases hL
noncomputable def f7_0 (v : V7) : (Prop) := false = false → decide ((↑v.L : Int) > (40 : Int)) = false → ∀ (i : Nat), scpL (0:Nat) ((fun (j : Nat) => [SV.int IntKind.u64 (v.F j), SV.int IntKind.u64 (v.G j)]) i) = true
noncomputable def f7_1 (v : V7) : (Prop) := false = false → decide ((↑v.L : Int) > (40 : Int)) = false → ∀ (i : Nat), i < v.M → (fun (j : Nat) => [SV.int IntKind.u64 (v.F j), SV.int IntKind.u64 (v.G j)]) i = elC (fun (j : Nat) => [SV.int IntKind.u64 (v.F j), SV.int IntKind.u64 (v.G j)]) (0:Nat) [Ck.int IntKind.u64, Ck.int IntKind.u64] i
noncomputable def f7_2 (v : V7) : (Prop) := false = false → decide ((↑v.L : Int) > (40 : Int)) = false → pre27 (V27.mk v.L v.wf v.wt v.M v.ob v.F v.G)
noncomputable def f7_3 (v : V7) : (Prop) := false = false → decide ((↑v.L : Int) > (40 : Int)) = false → (∀ (i : Nat), scpL (0:Nat) ((fun (j : Nat) => [SV.int IntKind.u64 (v.F j), SV.int IntKind.u64 (v.G j)]) i) = true) ∧ ∀ (i : Nat), scpL (0:Nat) ((fun (j : Nat) => [SV.int IntKind.u64 (So.gt (HL (sp v.F v.G) v.L (v.wf, v.wt)) j).fst, SV.int IntKind.u64 (So.gt (HL (sp v.F v.G) v.L (v.wf, v.wt)) j).snd]) i) = true
noncomputable def f7_4 (v : V7) : (Prop) := false = false → decide ((↑v.L : Int) > (40 : Int)) = false → (!f11_0 v.wf v.wt) = false → ((∀ (i : Nat), scpL (0:Nat) ((fun (j : Nat) => [SV.int IntKind.u64 (v.F j), SV.int IntKind.u64 (v.G j)]) i) = true) ∧ (∀ (i : Nat), i < v.M → (fun (j : Nat) => [SV.int IntKind.u64 (v.F j), SV.int IntKind.u64 (v.G j)]) i = elC (fun (j : Nat) => [SV.int IntKind.u64 (v.F j), SV.int IntKind.u64 (v.G j)]) (0:Nat) [Ck.int IntKind.u64, Ck.int IntKind.u64] i) ∧ pre29 (V29.mk v.L v.M v.ob v.F v.G) ∧ (∀ (i : Nat), scpL (0:Nat) ((fun (j : Nat) => [SV.int IntKind.u64 (v.F j), SV.int IntKind.u64 (v.G j)]) i) = true) ∧ ∀ (i : Nat), scpL (0:Nat) ((fun (j : Nat) => [SV.int IntKind.u64 (So.gt (So.flt (sp v.F v.G) v.L) j).fst, SV.int IntKind.u64 (So.gt (So.flt (sp v.F v.G) v.L) j).snd]) i) = true) ∧ (∀ (i : Nat), scpL (0:Nat) ((fun (j : Nat) => [SV.int IntKind.u64 (So.gt (So.flt (sp v.F v.G) v.L) j).fst, SV.int IntKind.u64 (So.gt (So.flt (sp v.F v.G) v.L) j).snd]) i) = true) ∧ (∀ (i : Nat), i < (So.flt (sp v.F v.G) v.L).length → (fun (j : Nat) => [SV.int IntKind.u64 (So.gt (So.flt (sp v.F v.G) v.L) j).fst, SV.int IntKind.u64 (So.gt (So.flt (sp v.F v.G) v.L) j).snd]) i = elC (fun (j : Nat) => [SV.int IntKind.u64 (So.gt (So.flt (sp v.F v.G) v.L) j).fst, SV.int IntKind.u64 (So.gt (So.flt (sp v.F v.G) v.L) j).snd]) (0:Nat) [Ck.int IntKind.u64, Ck.int IntKind.u64] i) ∧ pre28 (V28.mk (So.flt (sp v.F v.G) v.L).length v.wf v.wt (So.flt (sp v.F v.G) v.L).length (fun (j : Nat) => (So.gt (So.flt (sp v.F v.G) v.L) j).fst) fun (j : Nat) => (So.gt (So.flt (sp v.F v.G) v.L) j).snd) ∧ (∀ (i : Nat), scpL (0:Nat) ((fun (j : Nat) => [SV.int IntKind.u64 (So.gt (So.flt (sp v.F v.G) v.L) j).fst, SV.int IntKind.u64 (So.gt (So.flt (sp v.F v.G) v.L) j).snd]) i) = true) ∧ ∀ (i : Nat), scpL (0:Nat) ((fun (j : Nat) => [SV.int IntKind.u64 (So.gt (HL (sp (fun (j : Nat) => (So.gt (So.flt (sp v.F v.G) v.L) j).fst) fun (j : Nat) => (So.gt (So.flt (sp v.F v.G) v.L) j).snd) (So.flt (sp v.F v.G) v.L).length (v.wf, v.wt)) j).fst, SV.int IntKind.u64 (So.gt (HL (sp (fun (j : Nat) => (So.gt (So.flt (sp v.F v.G) v.L) j).fst) fun (j : Nat) => (So.gt (So.flt (sp v.F v.G) v.L) j).snd) (So.flt (sp v.F v.G) v.L).length (v.wf, v.wt)) j).snd]) i) = true
noncomputable def f7_5 (v : V7) : (Prop) := false = false → decide ((↑v.L : Int) > (40 : Int)) = false → (!f11_0 v.wf v.wt) = false → cnd (!(↑(HL (sp v.F v.G) v.L (v.wf, v.wt)).length : Int) != (↑(HL (sp (fun (j : Nat) => (So.gt (So.flt (sp v.F v.G) v.L) j).fst) fun (j : Nat) => (So.gt (So.flt (sp v.F v.G) v.L) j).snd) (So.flt (sp v.F v.G) v.L).length (v.wf, v.wt)).length : Int)) true false = true → (∀ (i : Nat), scpL (0:Nat) ((fun (j : Nat) => [SV.int IntKind.u64 (So.gt (HL (sp v.F v.G) v.L (v.wf, v.wt)) j).fst, SV.int IntKind.u64 (So.gt (HL (sp v.F v.G) v.L (v.wf, v.wt)) j).snd]) i) = true) ∧ (∀ (i : Nat), i < (HL (sp v.F v.G) v.L (v.wf, v.wt)).length → (fun (j : Nat) => [SV.int IntKind.u64 (So.gt (HL (sp v.F v.G) v.L (v.wf, v.wt)) j).fst, SV.int IntKind.u64 (So.gt (HL (sp v.F v.G) v.L (v.wf, v.wt)) j).snd]) i = elC (fun (j : Nat) => [SV.int IntKind.u64 (So.gt (HL (sp v.F v.G) v.L (v.wf, v.wt)) j).fst, SV.int IntKind.u64 (So.gt (HL (sp v.F v.G) v.L (v.wf, v.wt)) j).snd]) (0:Nat) [Ck.int IntKind.u64, Ck.int IntKind.u64] i) ∧ pre20 (inj20 (V20w.mk (HL (sp v.F v.G) v.L (v.wf, v.wt)).length (HL (sp v.F v.G) v.L (v.wf, v.wt)).length (fun (j : Nat) => (So.gt (HL (sp v.F v.G) v.L (v.wf, v.wt)) j).fst) fun (j : Nat) => (So.gt (HL (sp v.F v.G) v.L (v.wf, v.wt)) j).snd) (Go.Obj.cells #[] (0 : Go.TypeId))) ∧ ∀ (i : Nat), scpL (0:Nat) ((fun (j : Nat) => [SV.int IntKind.u64 (So.gt (HL (sp v.F v.G) v.L (v.wf, v.wt)) j).fst, SV.int IntKind.u64 (So.gt (HL (sp v.F v.G) v.L (v.wf, v.wt)) j).snd]) i) = true
noncomputable def f7_6 (v : V7) : (Prop) := false = false → decide ((↑v.L : Int) > (40 : Int)) = false → (!f11_0 v.wf v.wt) = false → (cnd ((↑(HL (sp v.F v.G) v.L (v.wf, v.wt)).length : Int) != (↑(HL (sp (fun (j : Nat) => (So.gt (So.flt (sp v.F v.G) v.L) j).fst) fun (j : Nat) => (So.gt (So.flt (sp v.F v.G) v.L) j).snd) (So.flt (sp v.F v.G) v.L).length (v.wf, v.wt)).length : Int)) true !decide (So.Ap (So.seg (sp (inj20 (V20w.mk (HL (sp v.F v.G) v.L (v.wf, v.wt)).length (HL (sp v.F v.G) v.L (v.wf, v.wt)).length (fun (j : Nat) => (So.gt (HL (sp v.F v.G) v.L (v.wf, v.wt)) j).fst) fun (j : Nat) => (So.gt (HL (sp v.F v.G) v.L (v.wf, v.wt)) j).snd) (Go.Obj.cells #[] (0 : Go.TypeId))).F (inj20 (V20w.mk (HL (sp v.F v.G) v.L (v.wf, v.wt)).length (HL (sp v.F v.G) v.L (v.wf, v.wt)).length (fun (j : Nat) => (So.gt (HL (sp v.F v.G) v.L (v.wf, v.wt)) j).fst) fun (j : Nat) => (So.gt (HL (sp v.F v.G) v.L (v.wf, v.wt)) j).snd) (Go.Obj.cells #[] (0 : Go.TypeId))).G) (0:Nat) (inj20 (V20w.mk (HL (sp v.F v.G) v.L (v.wf, v.wt)).length (HL (sp v.F v.G) v.L (v.wf, v.wt)).length (fun (j : Nat) => (So.gt (HL (sp v.F v.G) v.L (v.wf, v.wt)) j).fst) fun (j : Nat) => (So.gt (HL (sp v.F v.G) v.L (v.wf, v.wt)) j).snd) (Go.Obj.cells #[] (0 : Go.TypeId))).L))) = false → (∀ (i : Nat), i < v.M → (fun (j : Nat) => [SV.int IntKind.u64 (v.F j), SV.int IntKind.u64 (v.G j)]) i = elC (fun (j : Nat) => [SV.int IntKind.u64 (v.F j), SV.int IntKind.u64 (v.G j)]) (0:Nat) [Ck.int IntKind.u64, Ck.int IntKind.u64] i) ∧ (∀ (i : Nat), i < (HL (sp v.F v.G) v.L (v.wf, v.wt)).length → (fun (j : Nat) => [SV.int IntKind.u64 (So.gt (HL (sp v.F v.G) v.L (v.wf, v.wt)) j).fst, SV.int IntKind.u64 (So.gt (HL (sp v.F v.G) v.L (v.wf, v.wt)) j).snd]) i = elC (fun (j : Nat) => [SV.int IntKind.u64 (So.gt (HL (sp v.F v.G) v.L (v.wf, v.wt)) j).fst, SV.int IntKind.u64 (So.gt (HL (sp v.F v.G) v.L (v.wf, v.wt)) j).snd]) (0:Nat) [Ck.int IntKind.u64, Ck.int IntKind.u64] i) ∧ (∀ (i : Nat), i < (So.flt (sp v.F v.G) v.L).length → (fun (j : Nat) => [SV.int IntKind.u64 (So.gt (So.flt (sp v.F v.G) v.L) j).fst, SV.int IntKind.u64 (So.gt (So.flt (sp v.F v.G) v.L) j).snd]) i = elC (fun (j : Nat) => [SV.int IntKind.u64 (So.gt (So.flt (sp v.F v.G) v.L) j).fst, SV.int IntKind.u64 (So.gt (So.flt (sp v.F v.G) v.L) j).snd]) (0:Nat) [Ck.int IntKind.u64, Ck.int IntKind.u64] i) ∧ (∀ (i : Nat), i < (HL (sp (fun (j : Nat) => (So.gt (So.flt (sp v.F v.G) v.L) j).fst) fun (j : Nat) => (So.gt (So.flt (sp v.F v.G) v.L) j).snd) (So.flt (sp v.F v.G) v.L).length (v.wf, v.wt)).length → (fun (j : Nat) => [SV.int IntKind.u64 (So.gt (HL (sp (fun (j : Nat) => (So.gt (So.flt (sp v.F v.G) v.L) j).fst) fun (j : Nat) => (So.gt (So.flt (sp v.F v.G) v.L) j).snd) (So.flt (sp v.F v.G) v.L).length (v.wf, v.wt)) j).fst, SV.int IntKind.u64 (So.gt (HL (sp (fun (j : Nat) => (So.gt (So.flt (sp v.F v.G) v.L) j).fst) fun (j : Nat) => (So.gt (So.flt (sp v.F v.G) v.L) j).snd) (So.flt (sp v.F v.G) v.L).length (v.wf, v.wt)) j).snd]) i = elC (fun (j : Nat) => [SV.int IntKind.u64 (So.gt (HL (sp (fun (j : Nat) => (So.gt (So.flt (sp v.F v.G) v.L) j).fst) fun (j : Nat) => (So.gt (So.flt (sp v.F v.G) v.L) j).snd) (So.flt (sp v.F v.G) v.L).length (v.wf, v.wt)) j).fst, SV.int IntKind.u64 (So.gt (HL (sp (fun (j : Nat) => (So.gt (So.flt (sp v.F v.G) v.L) j).fst) fun (j : Nat) => (So.gt (So.flt (sp v.F v.G) v.L) j).snd) (So.flt (sp v.F v.G) v.L).length (v.wf, v.wt)) j).snd]) (0:Nat) [Ck.int IntKind.u64, Ck.int IntKind.u64] i) ∧ ∀ (i : Nat), i < (0:Nat) → (fun (j : Nat) => []) i = elC (fun (j : Nat) => []) (0:Nat) [Ck.int IntKind.u64, Ck.int IntKind.u64] i
noncomputable def f7_7 (v : V7) : (Prop) := false = false → decide ((↑v.L : Int) > (40 : Int)) = false → (!f11_0 v.wf v.wt) = false → (cnd ((↑(HL (sp v.F v.G) v.L (v.wf, v.wt)).length : Int) != (↑(HL (sp (fun (j : Nat) => (So.gt (So.flt (sp v.F v.G) v.L) j).fst) fun (j : Nat) => (So.gt (So.flt (sp v.F v.G) v.L) j).snd) (So.flt (sp v.F v.G) v.L).length (v.wf, v.wt)).length : Int)) true !decide (So.Ap (So.seg (sp (inj20 (V20w.mk (HL (sp v.F v.G) v.L (v.wf, v.wt)).length (HL (sp v.F v.G) v.L (v.wf, v.wt)).length (fun (j : Nat) => (So.gt (HL (sp v.F v.G) v.L (v.wf, v.wt)) j).fst) fun (j : Nat) => (So.gt (HL (sp v.F v.G) v.L (v.wf, v.wt)) j).snd) (Go.Obj.cells #[] (0 : Go.TypeId))).F (inj20 (V20w.mk (HL (sp v.F v.G) v.L (v.wf, v.wt)).length (HL (sp v.F v.G) v.L (v.wf, v.wt)).length (fun (j : Nat) => (So.gt (HL (sp v.F v.G) v.L (v.wf, v.wt)) j).fst) fun (j : Nat) => (So.gt (HL (sp v.F v.G) v.L (v.wf, v.wt)) j).snd) (Go.Obj.cells #[] (0 : Go.TypeId))).G) (0:Nat) (inj20 (V20w.mk (HL (sp v.F v.G) v.L (v.wf, v.wt)).length (HL (sp v.F v.G) v.L (v.wf, v.wt)).length (fun (j : Nat) => (So.gt (HL (sp v.F v.G) v.L (v.wf, v.wt)) j).fst) fun (j : Nat) => (So.gt (HL (sp v.F v.G) v.L (v.wf, v.wt)) j).snd) (Go.Obj.cells #[] (0 : Go.TypeId))).L))) = false → LT (r7_0 (P7_0.mk v.L (HL (sp v.F v.G) v.L (v.wf, v.wt)).length (HL (sp (fun (j : Nat) => (So.gt (So.flt (sp v.F v.G) v.L) j).fst) fun (j : Nat) => (So.gt (So.flt (sp v.F v.G) v.L) j).snd) (So.flt (sp v.F v.G) v.L).length (v.wf, v.wt)).length v.L (↑v.L : Int) v.M v.ob v.F v.G v.wf v.wt (HL (sp v.F v.G) v.L (v.wf, v.wt)).length (fun (j : Nat) => (So.gt (HL (sp v.F v.G) v.L (v.wf, v.wt)) j).fst) (fun (j : Nat) => (So.gt (HL (sp v.F v.G) v.L (v.wf, v.wt)) j).snd) (So.flt (sp v.F v.G) v.L).length (fun (j : Nat) => (So.gt (So.flt (sp v.F v.G) v.L) j).fst) (fun (j : Nat) => (So.gt (So.flt (sp v.F v.G) v.L) j).snd) (HL (sp (fun (j : Nat) => (So.gt (So.flt (sp v.F v.G) v.L) j).fst) fun (j : Nat) => (So.gt (So.flt (sp v.F v.G) v.L) j).snd) (So.flt (sp v.F v.G) v.L).length (v.wf, v.wt)).length (fun (j : Nat) => (So.gt (HL (sp (fun (j : Nat) => (So.gt (So.flt (sp v.F v.G) v.L) j).fst) fun (j : Nat) => (So.gt (So.flt (sp v.F v.G) v.L) j).snd) (So.flt (sp v.F v.G) v.L).length (v.wf, v.wt)) j).fst) fun (j : Nat) => (So.gt (HL (sp (fun (j : Nat) => (So.gt (So.flt (sp v.F v.G) v.L) j).fst) fun (j : Nat) => (So.gt (So.flt (sp v.F v.G) v.L) j).snd) (So.flt (sp v.F v.G) v.L).length (v.wf, v.wt)) j).snd)) (S7_0.mk (0:Nat) (0 : Int) (0:Nat) (colI (fun (j : Nat) => []) (0:Nat)) (colI (fun (j : Nat) => []) (1 : Nat)))
noncomputable def f7z0 (v : V7) : S7_0 := lastS (r7_0 (P7_0.mk v.L (HL (sp v.F v.G) v.L (v.wf, v.wt)).length (HL (sp (fun (j : Nat) => (So.gt (So.flt (sp v.F v.G) v.L) j).fst) fun (j : Nat) => (So.gt (So.flt (sp v.F v.G) v.L) j).snd) (So.flt (sp v.F v.G) v.L).length (v.wf, v.wt)).length v.L (↑v.L : Int) v.M v.ob v.F v.G v.wf v.wt (HL (sp v.F v.G) v.L (v.wf, v.wt)).length (fun (j : Nat) => (So.gt (HL (sp v.F v.G) v.L (v.wf, v.wt)) j).fst) (fun (j : Nat) => (So.gt (HL (sp v.F v.G) v.L (v.wf, v.wt)) j).snd) (So.flt (sp v.F v.G) v.L).length (fun (j : Nat) => (So.gt (So.flt (sp v.F v.G) v.L) j).fst) (fun (j : Nat) => (So.gt (So.flt (sp v.F v.G) v.L) j).snd) (HL (sp (fun (j : Nat) => (So.gt (So.flt (sp v.F v.G) v.L) j).fst) fun (j : Nat) => (So.gt (So.flt (sp v.F v.G) v.L) j).snd) (So.flt (sp v.F v.G) v.L).length (v.wf, v.wt)).length (fun (j : Nat) => (So.gt (HL (sp (fun (j : Nat) => (So.gt (So.flt (sp v.F v.G) v.L) j).fst) fun (j : Nat) => (So.gt (So.flt (sp v.F v.G) v.L) j).snd) (So.flt (sp v.F v.G) v.L).length (v.wf, v.wt)) j).fst) fun (j : Nat) => (So.gt (HL (sp (fun (j : Nat) => (So.gt (So.flt (sp v.F v.G) v.L) j).fst) fun (j : Nat) => (So.gt (So.flt (sp v.F v.G) v.L) j).snd) (So.flt (sp v.F v.G) v.L).length (v.wf, v.wt)) j).snd)) (S7_0.mk (0:Nat) (0 : Int) (0:Nat) (colI (fun (j : Nat) => []) (0:Nat)) (colI (fun (j : Nat) => []) (1 : Nat)))
noncomputable def f7_8 (v : V7) : (Prop) := false = false → decide ((↑v.L : Int) > (40 : Int)) = false → (!f11_0 v.wf v.wt) = false → (cnd ((↑(HL (sp v.F v.G) v.L (v.wf, v.wt)).length : Int) != (↑(HL (sp (fun (j : Nat) => (So.gt (So.flt (sp v.F v.G) v.L) j).fst) fun (j : Nat) => (So.gt (So.flt (sp v.F v.G) v.L) j).snd) (So.flt (sp v.F v.G) v.L).length (v.wf, v.wt)).length : Int)) true !decide (So.Ap (So.seg (sp (inj20 (V20w.mk (HL (sp v.F v.G) v.L (v.wf, v.wt)).length (HL (sp v.F v.G) v.L (v.wf, v.wt)).length (fun (j : Nat) => (So.gt (HL (sp v.F v.G) v.L (v.wf, v.wt)) j).fst) fun (j : Nat) => (So.gt (HL (sp v.F v.G) v.L (v.wf, v.wt)) j).snd) (Go.Obj.cells #[] (0 : Go.TypeId))).F (inj20 (V20w.mk (HL (sp v.F v.G) v.L (v.wf, v.wt)).length (HL (sp v.F v.G) v.L (v.wf, v.wt)).length (fun (j : Nat) => (So.gt (HL (sp v.F v.G) v.L (v.wf, v.wt)) j).fst) fun (j : Nat) => (So.gt (HL (sp v.F v.G) v.L (v.wf, v.wt)) j).snd) (Go.Obj.cells #[] (0 : Go.TypeId))).G) (0:Nat) (inj20 (V20w.mk (HL (sp v.F v.G) v.L (v.wf, v.wt)).length (HL (sp v.F v.G) v.L (v.wf, v.wt)).length (fun (j : Nat) => (So.gt (HL (sp v.F v.G) v.L (v.wf, v.wt)) j).fst) fun (j : Nat) => (So.gt (HL (sp v.F v.G) v.L (v.wf, v.wt)) j).snd) (Go.Obj.cells #[] (0 : Go.TypeId))).L))) = false → (∀ (i : Nat), i < v.M → (fun (j : Nat) => [SV.int IntKind.u64 (v.F j), SV.int IntKind.u64 (v.G j)]) i = elC (fun (j : Nat) => [SV.int IntKind.u64 (v.F j), SV.int IntKind.u64 (v.G j)]) (0:Nat) [Ck.int IntKind.u64, Ck.int IntKind.u64] i) ∧ (∀ (i : Nat), i < (HL (sp v.F v.G) v.L (v.wf, v.wt)).length → (fun (j : Nat) => [SV.int IntKind.u64 (So.gt (HL (sp v.F v.G) v.L (v.wf, v.wt)) j).fst, SV.int IntKind.u64 (So.gt (HL (sp v.F v.G) v.L (v.wf, v.wt)) j).snd]) i = elC (fun (j : Nat) => [SV.int IntKind.u64 (So.gt (HL (sp v.F v.G) v.L (v.wf, v.wt)) j).fst, SV.int IntKind.u64 (So.gt (HL (sp v.F v.G) v.L (v.wf, v.wt)) j).snd]) (0:Nat) [Ck.int IntKind.u64, Ck.int IntKind.u64] i) ∧ (∀ (i : Nat), i < (So.flt (sp v.F v.G) v.L).length → (fun (j : Nat) => [SV.int IntKind.u64 (So.gt (So.flt (sp v.F v.G) v.L) j).fst, SV.int IntKind.u64 (So.gt (So.flt (sp v.F v.G) v.L) j).snd]) i = elC (fun (j : Nat) => [SV.int IntKind.u64 (So.gt (So.flt (sp v.F v.G) v.L) j).fst, SV.int IntKind.u64 (So.gt (So.flt (sp v.F v.G) v.L) j).snd]) (0:Nat) [Ck.int IntKind.u64, Ck.int IntKind.u64] i) ∧ (∀ (i : Nat), i < (HL (sp (fun (j : Nat) => (So.gt (So.flt (sp v.F v.G) v.L) j).fst) fun (j : Nat) => (So.gt (So.flt (sp v.F v.G) v.L) j).snd) (So.flt (sp v.F v.G) v.L).length (v.wf, v.wt)).length → (fun (j : Nat) => [SV.int IntKind.u64 (So.gt (HL (sp (fun (j : Nat) => (So.gt (So.flt (sp v.F v.G) v.L) j).fst) fun (j : Nat) => (So.gt (So.flt (sp v.F v.G) v.L) j).snd) (So.flt (sp v.F v.G) v.L).length (v.wf, v.wt)) j).fst, SV.int IntKind.u64 (So.gt (HL (sp (fun (j : Nat) => (So.gt (So.flt (sp v.F v.G) v.L) j).fst) fun (j : Nat) => (So.gt (So.flt (sp v.F v.G) v.L) j).snd) (So.flt (sp v.F v.G) v.L).length (v.wf, v.wt)) j).snd]) i = elC (fun (j : Nat) => [SV.int IntKind.u64 (So.gt (HL (sp (fun (j : Nat) => (So.gt (So.flt (sp v.F v.G) v.L) j).fst) fun (j : Nat) => (So.gt (So.flt (sp v.F v.G) v.L) j).snd) (So.flt (sp v.F v.G) v.L).length (v.wf, v.wt)) j).fst, SV.int IntKind.u64 (So.gt (HL (sp (fun (j : Nat) => (So.gt (So.flt (sp v.F v.G) v.L) j).fst) fun (j : Nat) => (So.gt (So.flt (sp v.F v.G) v.L) j).snd) (So.flt (sp v.F v.G) v.L).length (v.wf, v.wt)) j).snd]) (0:Nat) [Ck.int IntKind.u64, Ck.int IntKind.u64] i) ∧ ∀ (i : Nat), i < (f7z0 v).N5 → (fun (j : Nat) => [SV.int IntKind.u64 ((f7z0 v).F5_0 j), SV.int IntKind.u64 ((f7z0 v).F5_1 j)]) i = elC (fun (j : Nat) => [SV.int IntKind.u64 ((f7z0 v).F5_0 j), SV.int IntKind.u64 ((f7z0 v).F5_1 j)]) (0:Nat) [Ck.int IntKind.u64, Ck.int IntKind.u64] i
noncomputable def f7_9 (v : V7) : (Prop) := false = false → decide ((↑v.L : Int) > (40 : Int)) = false → (!f11_0 v.wf v.wt) = false → (cnd ((↑(HL (sp v.F v.G) v.L (v.wf, v.wt)).length : Int) != (↑(HL (sp (fun (j : Nat) => (So.gt (So.flt (sp v.F v.G) v.L) j).fst) fun (j : Nat) => (So.gt (So.flt (sp v.F v.G) v.L) j).snd) (So.flt (sp v.F v.G) v.L).length (v.wf, v.wt)).length : Int)) true !decide (So.Ap (So.seg (sp (inj20 (V20w.mk (HL (sp v.F v.G) v.L (v.wf, v.wt)).length (HL (sp v.F v.G) v.L (v.wf, v.wt)).length (fun (j : Nat) => (So.gt (HL (sp v.F v.G) v.L (v.wf, v.wt)) j).fst) fun (j : Nat) => (So.gt (HL (sp v.F v.G) v.L (v.wf, v.wt)) j).snd) (Go.Obj.cells #[] (0 : Go.TypeId))).F (inj20 (V20w.mk (HL (sp v.F v.G) v.L (v.wf, v.wt)).length (HL (sp v.F v.G) v.L (v.wf, v.wt)).length (fun (j : Nat) => (So.gt (HL (sp v.F v.G) v.L (v.wf, v.wt)) j).fst) fun (j : Nat) => (So.gt (HL (sp v.F v.G) v.L (v.wf, v.wt)) j).snd) (Go.Obj.cells #[] (0 : Go.TypeId))).G) (0:Nat) (inj20 (V20w.mk (HL (sp v.F v.G) v.L (v.wf, v.wt)).length (HL (sp v.F v.G) v.L (v.wf, v.wt)).length (fun (j : Nat) => (So.gt (HL (sp v.F v.G) v.L (v.wf, v.wt)) j).fst) fun (j : Nat) => (So.gt (HL (sp v.F v.G) v.L (v.wf, v.wt)) j).snd) (Go.Obj.cells #[] (0 : Go.TypeId))).L))) = false → LT (r7_1 (P7_1.mk v.L (HL (sp (fun (j : Nat) => (So.gt (So.flt (sp v.F v.G) v.L) j).fst) fun (j : Nat) => (So.gt (So.flt (sp v.F v.G) v.L) j).snd) (So.flt (sp v.F v.G) v.L).length (v.wf, v.wt)).length (f7z0 v).n7 (HL (sp v.F v.G) v.L (v.wf, v.wt)).length (↑(HL (sp v.F v.G) v.L (v.wf, v.wt)).length : Int) v.M v.ob v.F v.G v.wf v.wt (HL (sp v.F v.G) v.L (v.wf, v.wt)).length (fun (j : Nat) => (So.gt (HL (sp v.F v.G) v.L (v.wf, v.wt)) j).fst) (fun (j : Nat) => (So.gt (HL (sp v.F v.G) v.L (v.wf, v.wt)) j).snd) (So.flt (sp v.F v.G) v.L).length (fun (j : Nat) => (So.gt (So.flt (sp v.F v.G) v.L) j).fst) (fun (j : Nat) => (So.gt (So.flt (sp v.F v.G) v.L) j).snd) (HL (sp (fun (j : Nat) => (So.gt (So.flt (sp v.F v.G) v.L) j).fst) fun (j : Nat) => (So.gt (So.flt (sp v.F v.G) v.L) j).snd) (So.flt (sp v.F v.G) v.L).length (v.wf, v.wt)).length (fun (j : Nat) => (So.gt (HL (sp (fun (j : Nat) => (So.gt (So.flt (sp v.F v.G) v.L) j).fst) fun (j : Nat) => (So.gt (So.flt (sp v.F v.G) v.L) j).snd) (So.flt (sp v.F v.G) v.L).length (v.wf, v.wt)) j).fst) (fun (j : Nat) => (So.gt (HL (sp (fun (j : Nat) => (So.gt (So.flt (sp v.F v.G) v.L) j).fst) fun (j : Nat) => (So.gt (So.flt (sp v.F v.G) v.L) j).snd) (So.flt (sp v.F v.G) v.L).length (v.wf, v.wt)) j).snd) (f7z0 v).N5 (f7z0 v).F5_0 (f7z0 v).F5_1)) (S7_1.mk (0 : Int) (0 : Int))
noncomputable def f7z1 (v : V7) : S7_1 := lastS (r7_1 (P7_1.mk v.L (HL (sp (fun (j : Nat) => (So.gt (So.flt (sp v.F v.G) v.L) j).fst) fun (j : Nat) => (So.gt (So.flt (sp v.F v.G) v.L) j).snd) (So.flt (sp v.F v.G) v.L).length (v.wf, v.wt)).length (f7z0 v).n7 (HL (sp v.F v.G) v.L (v.wf, v.wt)).length (↑(HL (sp v.F v.G) v.L (v.wf, v.wt)).length : Int) v.M v.ob v.F v.G v.wf v.wt (HL (sp v.F v.G) v.L (v.wf, v.wt)).length (fun (j : Nat) => (So.gt (HL (sp v.F v.G) v.L (v.wf, v.wt)) j).fst) (fun (j : Nat) => (So.gt (HL (sp v.F v.G) v.L (v.wf, v.wt)) j).snd) (So.flt (sp v.F v.G) v.L).length (fun (j : Nat) => (So.gt (So.flt (sp v.F v.G) v.L) j).fst) (fun (j : Nat) => (So.gt (So.flt (sp v.F v.G) v.L) j).snd) (HL (sp (fun (j : Nat) => (So.gt (So.flt (sp v.F v.G) v.L) j).fst) fun (j : Nat) => (So.gt (So.flt (sp v.F v.G) v.L) j).snd) (So.flt (sp v.F v.G) v.L).length (v.wf, v.wt)).length (fun (j : Nat) => (So.gt (HL (sp (fun (j : Nat) => (So.gt (So.flt (sp v.F v.G) v.L) j).fst) fun (j : Nat) => (So.gt (So.flt (sp v.F v.G) v.L) j).snd) (So.flt (sp v.F v.G) v.L).length (v.wf, v.wt)) j).fst) (fun (j : Nat) => (So.gt (HL (sp (fun (j : Nat) => (So.gt (So.flt (sp v.F v.G) v.L) j).fst) fun (j : Nat) => (So.gt (So.flt (sp v.F v.G) v.L) j).snd) (So.flt (sp v.F v.G) v.L).length (v.wf, v.wt)) j).snd) (f7z0 v).N5 (f7z0 v).F5_0 (f7z0 v).F5_1)) (S7_1.mk (0 : Int) (0 : Int))
noncomputable def f7_10 (v : V7) : (Prop) := false = false → decide ((↑v.L : Int) > (40 : Int)) = false → (!f11_0 v.wf v.wt) = false → (cnd ((↑(HL (sp v.F v.G) v.L (v.wf, v.wt)).length : Int) != (↑(HL (sp (fun (j : Nat) => (So.gt (So.flt (sp v.F v.G) v.L) j).fst) fun (j : Nat) => (So.gt (So.flt (sp v.F v.G) v.L) j).snd) (So.flt (sp v.F v.G) v.L).length (v.wf, v.wt)).length : Int)) true !decide (So.Ap (So.seg (sp (inj20 (V20w.mk (HL (sp v.F v.G) v.L (v.wf, v.wt)).length (HL (sp v.F v.G) v.L (v.wf, v.wt)).length (fun (j : Nat) => (So.gt (HL (sp v.F v.G) v.L (v.wf, v.wt)) j).fst) fun (j : Nat) => (So.gt (HL (sp v.F v.G) v.L (v.wf, v.wt)) j).snd) (Go.Obj.cells #[] (0 : Go.TypeId))).F (inj20 (V20w.mk (HL (sp v.F v.G) v.L (v.wf, v.wt)).length (HL (sp v.F v.G) v.L (v.wf, v.wt)).length (fun (j : Nat) => (So.gt (HL (sp v.F v.G) v.L (v.wf, v.wt)) j).fst) fun (j : Nat) => (So.gt (HL (sp v.F v.G) v.L (v.wf, v.wt)) j).snd) (Go.Obj.cells #[] (0 : Go.TypeId))).G) (0:Nat) (inj20 (V20w.mk (HL (sp v.F v.G) v.L (v.wf, v.wt)).length (HL (sp v.F v.G) v.L (v.wf, v.wt)).length (fun (j : Nat) => (So.gt (HL (sp v.F v.G) v.L (v.wf, v.wt)) j).fst) fun (j : Nat) => (So.gt (HL (sp v.F v.G) v.L (v.wf, v.wt)) j).snd) (Go.Obj.cells #[] (0 : Go.TypeId))).L))) = false → cnd (e7_1_0 (P7_1.mk v.L (HL (sp (fun (j : Nat) => (So.gt (So.flt (sp v.F v.G) v.L) j).fst) fun (j : Nat) => (So.gt (So.flt (sp v.F v.G) v.L) j).snd) (So.flt (sp v.F v.G) v.L).length (v.wf, v.wt)).length (f7z0 v).n7 (HL (sp v.F v.G) v.L (v.wf, v.wt)).length (↑(HL (sp v.F v.G) v.L (v.wf, v.wt)).length : Int) v.M v.ob v.F v.G v.wf v.wt (HL (sp v.F v.G) v.L (v.wf, v.wt)).length (fun (j : Nat) => (So.gt (HL (sp v.F v.G) v.L (v.wf, v.wt)) j).fst) (fun (j : Nat) => (So.gt (HL (sp v.F v.G) v.L (v.wf, v.wt)) j).snd) (So.flt (sp v.F v.G) v.L).length (fun (j : Nat) => (So.gt (So.flt (sp v.F v.G) v.L) j).fst) (fun (j : Nat) => (So.gt (So.flt (sp v.F v.G) v.L) j).snd) (HL (sp (fun (j : Nat) => (So.gt (So.flt (sp v.F v.G) v.L) j).fst) fun (j : Nat) => (So.gt (So.flt (sp v.F v.G) v.L) j).snd) (So.flt (sp v.F v.G) v.L).length (v.wf, v.wt)).length (fun (j : Nat) => (So.gt (HL (sp (fun (j : Nat) => (So.gt (So.flt (sp v.F v.G) v.L) j).fst) fun (j : Nat) => (So.gt (So.flt (sp v.F v.G) v.L) j).snd) (So.flt (sp v.F v.G) v.L).length (v.wf, v.wt)) j).fst) (fun (j : Nat) => (So.gt (HL (sp (fun (j : Nat) => (So.gt (So.flt (sp v.F v.G) v.L) j).fst) fun (j : Nat) => (So.gt (So.flt (sp v.F v.G) v.L) j).snd) (So.flt (sp v.F v.G) v.L).length (v.wf, v.wt)) j).snd) (f7z0 v).N5 (f7z0 v).F5_0 (f7z0 v).F5_1) (f7z1 v)) false (e7_1_5 (P7_1.mk v.L (HL (sp (fun (j : Nat) => (So.gt (So.flt (sp v.F v.G) v.L) j).fst) fun (j : Nat) => (So.gt (So.flt (sp v.F v.G) v.L) j).snd) (So.flt (sp v.F v.G) v.L).length (v.wf, v.wt)).length (f7z0 v).n7 (HL (sp v.F v.G) v.L (v.wf, v.wt)).length (↑(HL (sp v.F v.G) v.L (v.wf, v.wt)).length : Int) v.M v.ob v.F v.G v.wf v.wt (HL (sp v.F v.G) v.L (v.wf, v.wt)).length (fun (j : Nat) => (So.gt (HL (sp v.F v.G) v.L (v.wf, v.wt)) j).fst) (fun (j : Nat) => (So.gt (HL (sp v.F v.G) v.L (v.wf, v.wt)) j).snd) (So.flt (sp v.F v.G) v.L).length (fun (j : Nat) => (So.gt (So.flt (sp v.F v.G) v.L) j).fst) (fun (j : Nat) => (So.gt (So.flt (sp v.F v.G) v.L) j).snd) (HL (sp (fun (j : Nat) => (So.gt (So.flt (sp v.F v.G) v.L) j).fst) fun (j : Nat) => (So.gt (So.flt (sp v.F v.G) v.L) j).snd) (So.flt (sp v.F v.G) v.L).length (v.wf, v.wt)).length (fun (j : Nat) => (So.gt (HL (sp (fun (j : Nat) => (So.gt (So.flt (sp v.F v.G) v.L) j).fst) fun (j : Nat) => (So.gt (So.flt (sp v.F v.G) v.L) j).snd) (So.flt (sp v.F v.G) v.L).length (v.wf, v.wt)) j).fst) (fun (j : Nat) => (So.gt (HL (sp (fun (j : Nat) => (So.gt (So.flt (sp v.F v.G) v.L) j).fst) fun (j : Nat) => (So.gt (So.flt (sp v.F v.G) v.L) j).snd) (So.flt (sp v.F v.G) v.L).length (v.wf, v.wt)) j).snd) (f7z0 v).N5 (f7z0 v).F5_0 (f7z0 v).F5_1) (f7z1 v)) = false → cnd (e7_1_0 (P7_1.mk v.L (HL (sp (fun (j : Nat) => (So.gt (So.flt (sp v.F v.G) v.L) j).fst) fun (j : Nat) => (So.gt (So.flt (sp v.F v.G) v.L) j).snd) (So.flt (sp v.F v.G) v.L).length (v.wf, v.wt)).length (f7z0 v).n7 (HL (sp v.F v.G) v.L (v.wf, v.wt)).length (↑(HL (sp v.F v.G) v.L (v.wf, v.wt)).length : Int) v.M v.ob v.F v.G v.wf v.wt (HL (sp v.F v.G) v.L (v.wf, v.wt)).length (fun (j : Nat) => (So.gt (HL (sp v.F v.G) v.L (v.wf, v.wt)) j).fst) (fun (j : Nat) => (So.gt (HL (sp v.F v.G) v.L (v.wf, v.wt)) j).snd) (So.flt (sp v.F v.G) v.L).length (fun (j : Nat) => (So.gt (So.flt (sp v.F v.G) v.L) j).fst) (fun (j : Nat) => (So.gt (So.flt (sp v.F v.G) v.L) j).snd) (HL (sp (fun (j : Nat) => (So.gt (So.flt (sp v.F v.G) v.L) j).fst) fun (j : Nat) => (So.gt (So.flt (sp v.F v.G) v.L) j).snd) (So.flt (sp v.F v.G) v.L).length (v.wf, v.wt)).length (fun (j : Nat) => (So.gt (HL (sp (fun (j : Nat) => (So.gt (So.flt (sp v.F v.G) v.L) j).fst) fun (j : Nat) => (So.gt (So.flt (sp v.F v.G) v.L) j).snd) (So.flt (sp v.F v.G) v.L).length (v.wf, v.wt)) j).fst) (fun (j : Nat) => (So.gt (HL (sp (fun (j : Nat) => (So.gt (So.flt (sp v.F v.G) v.L) j).fst) fun (j : Nat) => (So.gt (So.flt (sp v.F v.G) v.L) j).snd) (So.flt (sp v.F v.G) v.L).length (v.wf, v.wt)) j).snd) (f7z0 v).N5 (f7z0 v).F5_0 (f7z0 v).F5_1) (f7z1 v)) false true = false → true = true → (∀ (i : Nat), scpL (0:Nat) ((fun (j : Nat) => [SV.int IntKind.u64 ((f7z0 v).F5_0 j), SV.int IntKind.u64 ((f7z0 v).F5_1 j)]) i) = true) ∧ (∀ (i : Nat), i < (f7z0 v).N5 → (fun (j : Nat) => [SV.int IntKind.u64 ((f7z0 v).F5_0 j), SV.int IntKind.u64 ((f7z0 v).F5_1 j)]) i = elC (fun (j : Nat) => [SV.int IntKind.u64 ((f7z0 v).F5_0 j), SV.int IntKind.u64 ((f7z0 v).F5_1 j)]) (0:Nat) [Ck.int IntKind.u64, Ck.int IntKind.u64] i) ∧ pre26 (inj26 (V26w.mk (f7z0 v).n7 (f7z0 v).N5 (f7z0 v).F5_0 (f7z0 v).F5_1) (Go.Obj.cells #[] (0 : Go.TypeId))) ∧ ∀ (i : Nat), scpL (0:Nat) ((fun (j : Nat) => [SV.int IntKind.u64 ((f7z0 v).F5_0 j), SV.int IntKind.u64 ((f7z0 v).F5_1 j)]) i) = true
noncomputable def f7_11 (v : V7) : (Bool) := cnd (decide ((↑v.L : Int) > (40 : Int))) true (cnd (!f11_0 v.wf v.wt) ((↑(HL (sp v.F v.G) v.L (v.wf, v.wt)).length : Int) == (0 : Int)) (cnd (cnd ((↑(HL (sp v.F v.G) v.L (v.wf, v.wt)).length : Int) != (↑(HL (sp (fun (j : Nat) => (So.gt (So.flt (sp v.F v.G) v.L) j).fst) fun (j : Nat) => (So.gt (So.flt (sp v.F v.G) v.L) j).snd) (So.flt (sp v.F v.G) v.L).length (v.wf, v.wt)).length : Int)) true !decide (So.Ap (So.seg (sp (inj20 (V20w.mk (HL (sp v.F v.G) v.L (v.wf, v.wt)).length (HL (sp v.F v.G) v.L (v.wf, v.wt)).length (fun (j : Nat) => (So.gt (HL (sp v.F v.G) v.L (v.wf, v.wt)) j).fst) fun (j : Nat) => (So.gt (HL (sp v.F v.G) v.L (v.wf, v.wt)) j).snd) (Go.Obj.cells #[] (0 : Go.TypeId))).F (inj20 (V20w.mk (HL (sp v.F v.G) v.L (v.wf, v.wt)).length (HL (sp v.F v.G) v.L (v.wf, v.wt)).length (fun (j : Nat) => (So.gt (HL (sp v.F v.G) v.L (v.wf, v.wt)) j).fst) fun (j : Nat) => (So.gt (HL (sp v.F v.G) v.L (v.wf, v.wt)) j).snd) (Go.Obj.cells #[] (0 : Go.TypeId))).G) (0:Nat) (inj20 (V20w.mk (HL (sp v.F v.G) v.L (v.wf, v.wt)).length (HL (sp v.F v.G) v.L (v.wf, v.wt)).length (fun (j : Nat) => (So.gt (HL (sp v.F v.G) v.L (v.wf, v.wt)) j).fst) fun (j : Nat) => (So.gt (HL (sp v.F v.G) v.L (v.wf, v.wt)) j).snd) (Go.Obj.cells #[] (0 : Go.TypeId))).L))) false (cnd (cnd (e7_1_0 (P7_1.mk v.L (HL (sp (fun (j : Nat) => (So.gt (So.flt (sp v.F v.G) v.L) j).fst) fun (j : Nat) => (So.gt (So.flt (sp v.F v.G) v.L) j).snd) (So.flt (sp v.F v.G) v.L).length (v.wf, v.wt)).length (f7z0 v).n7 (HL (sp v.F v.G) v.L (v.wf, v.wt)).length (↑(HL (sp v.F v.G) v.L (v.wf, v.wt)).length : Int) v.M v.ob v.F v.G v.wf v.wt (HL (sp v.F v.G) v.L (v.wf, v.wt)).length (fun (j : Nat) => (So.gt (HL (sp v.F v.G) v.L (v.wf, v.wt)) j).fst) (fun (j : Nat) => (So.gt (HL (sp v.F v.G) v.L (v.wf, v.wt)) j).snd) (So.flt (sp v.F v.G) v.L).length (fun (j : Nat) => (So.gt (So.flt (sp v.F v.G) v.L) j).fst) (fun (j : Nat) => (So.gt (So.flt (sp v.F v.G) v.L) j).snd) (HL (sp (fun (j : Nat) => (So.gt (So.flt (sp v.F v.G) v.L) j).fst) fun (j : Nat) => (So.gt (So.flt (sp v.F v.G) v.L) j).snd) (So.flt (sp v.F v.G) v.L).length (v.wf, v.wt)).length (fun (j : Nat) => (So.gt (HL (sp (fun (j : Nat) => (So.gt (So.flt (sp v.F v.G) v.L) j).fst) fun (j : Nat) => (So.gt (So.flt (sp v.F v.G) v.L) j).snd) (So.flt (sp v.F v.G) v.L).length (v.wf, v.wt)) j).fst) (fun (j : Nat) => (So.gt (HL (sp (fun (j : Nat) => (So.gt (So.flt (sp v.F v.G) v.L) j).fst) fun (j : Nat) => (So.gt (So.flt (sp v.F v.G) v.L) j).snd) (So.flt (sp v.F v.G) v.L).length (v.wf, v.wt)) j).snd) (f7z0 v).N5 (f7z0 v).F5_0 (f7z0 v).F5_1) (f7z1 v)) false (e7_1_5 (P7_1.mk v.L (HL (sp (fun (j : Nat) => (So.gt (So.flt (sp v.F v.G) v.L) j).fst) fun (j : Nat) => (So.gt (So.flt (sp v.F v.G) v.L) j).snd) (So.flt (sp v.F v.G) v.L).length (v.wf, v.wt)).length (f7z0 v).n7 (HL (sp v.F v.G) v.L (v.wf, v.wt)).length (↑(HL (sp v.F v.G) v.L (v.wf, v.wt)).length : Int) v.M v.ob v.F v.G v.wf v.wt (HL (sp v.F v.G) v.L (v.wf, v.wt)).length (fun (j : Nat) => (So.gt (HL (sp v.F v.G) v.L (v.wf, v.wt)) j).fst) (fun (j : Nat) => (So.gt (HL (sp v.F v.G) v.L (v.wf, v.wt)) j).snd) (So.flt (sp v.F v.G) v.L).length (fun (j : Nat) => (So.gt (So.flt (sp v.F v.G) v.L) j).fst) (fun (j : Nat) => (So.gt (So.flt (sp v.F v.G) v.L) j).snd) (HL (sp (fun (j : Nat) => (So.gt (So.flt (sp v.F v.G) v.L) j).fst) fun (j : Nat) => (So.gt (So.flt (sp v.F v.G) v.L) j).snd) (So.flt (sp v.F v.G) v.L).length (v.wf, v.wt)).length (fun (j : Nat) => (So.gt (HL (sp (fun (j : Nat) => (So.gt (So.flt (sp v.F v.G) v.L) j).fst) fun (j : Nat) => (So.gt (So.flt (sp v.F v.G) v.L) j).snd) (So.flt (sp v.F v.G) v.L).length (v.wf, v.wt)) j).fst) (fun (j : Nat) => (So.gt (HL (sp (fun (j : Nat) => (So.gt (So.flt (sp v.F v.G) v.L) j).fst) fun (j : Nat) => (So.gt (So.flt (sp v.F v.G) v.L) j).snd) (So.flt (sp v.F v.G) v.L).length (v.wf, v.wt)) j).snd) (f7z0 v).N5 (f7z0 v).F5_0 (f7z0 v).F5_1) (f7z1 v))) false (cnd (cnd (e7_1_0 (P7_1.mk v.L (HL (sp (fun (j : Nat) => (So.gt (So.flt (sp v.F v.G) v.L) j).fst) fun (j : Nat) => (So.gt (So.flt (sp v.F v.G) v.L) j).snd) (So.flt (sp v.F v.G) v.L).length (v.wf, v.wt)).length (f7z0 v).n7 (HL (sp v.F v.G) v.L (v.wf, v.wt)).length (↑(HL (sp v.F v.G) v.L (v.wf, v.wt)).length : Int) v.M v.ob v.F v.G v.wf v.wt (HL (sp v.F v.G) v.L (v.wf, v.wt)).length (fun (j : Nat) => (So.gt (HL (sp v.F v.G) v.L (v.wf, v.wt)) j).fst) (fun (j : Nat) => (So.gt (HL (sp v.F v.G) v.L (v.wf, v.wt)) j).snd) (So.flt (sp v.F v.G) v.L).length (fun (j : Nat) => (So.gt (So.flt (sp v.F v.G) v.L) j).fst) (fun (j : Nat) => (So.gt (So.flt (sp v.F v.G) v.L) j).snd) (HL (sp (fun (j : Nat) => (So.gt (So.flt (sp v.F v.G) v.L) j).fst) fun (j : Nat) => (So.gt (So.flt (sp v.F v.G) v.L) j).snd) (So.flt (sp v.F v.G) v.L).length (v.wf, v.wt)).length (fun (j : Nat) => (So.gt (HL (sp (fun (j : Nat) => (So.gt (So.flt (sp v.F v.G) v.L) j).fst) fun (j : Nat) => (So.gt (So.flt (sp v.F v.G) v.L) j).snd) (So.flt (sp v.F v.G) v.L).length (v.wf, v.wt)) j).fst) (fun (j : Nat) => (So.gt (HL (sp (fun (j : Nat) => (So.gt (So.flt (sp v.F v.G) v.L) j).fst) fun (j : Nat) => (So.gt (So.flt (sp v.F v.G) v.L) j).snd) (So.flt (sp v.F v.G) v.L).length (v.wf, v.wt)) j).snd) (f7z0 v).N5 (f7z0 v).F5_0 (f7z0 v).F5_1) (f7z1 v)) false true) false (IntKind.u64.wrap ((f7z1 v).x10 + (So.tot (RS (sp (inj26 (V26w.mk (f7z0 v).n7 (f7z0 v).N5 (f7z0 v).F5_0 (f7z0 v).F5_1) (Go.Obj.cells #[] (0 : Go.TypeId))).F (inj26 (V26w.mk (f7z0 v).n7 (f7z0 v).N5 (f7z0 v).F5_0 (f7z0 v).F5_1) (Go.Obj.cells #[] (0 : Go.TypeId))).G) (inj26 (V26w.mk (f7z0 v).n7 (f7z0 v).N5 (f7z0 v).F5_0 (f7z0 v).F5_1) (Go.Obj.cells #[] (0 : Go.TypeId))).L)).fst) == IntKind.u64.wrap (v.wt - v.wf))))))
theorem n_f7_0 (v : V7) : f7_0 v := by
  unfold f7_0
  first
    | (intros; rfl)
    | (intro i; rfl)
    | (intro i _; rfl)
    | (intro _ i; rfl)
    | (intro _ i _; rfl)
    | (refine ⟨?_, ?_⟩ <;> intro i <;> rfl)
    | (refine ⟨?_, ?_, ?_⟩ <;> intro i <;> rfl)
    | (refine ⟨?_, ?_⟩ <;> intro i _ <;> rfl)
    | (repeat' apply And.intro) <;> first | (intro i; rfl) | (intro i _; rfl) | (intro i h; exact absurd h (Nat.not_lt_zero i)) | (intro i; exact scpL_rowSet (by rfl) (by rfl)) | (intro i; exact scpL_rowEl (by kernel_rfl) _)
    | (intros; (repeat' apply And.intro) <;> intros <;> first | rfl | (exact absurd (by assumption) (Nat.not_lt_zero _)))
    | omega
    | decide
theorem n_f7_1 (v : V7) : f7_1 v := by
  unfold f7_1
  first
    | (intros; rfl)
    | (intro i; rfl)
    | (intro i _; rfl)
    | (intro _ i; rfl)
    | (intro _ i _; rfl)
    | (refine ⟨?_, ?_⟩ <;> intro i <;> rfl)
    | (refine ⟨?_, ?_, ?_⟩ <;> intro i <;> rfl)
    | (refine ⟨?_, ?_⟩ <;> intro i _ <;> rfl)
    | (repeat' apply And.intro) <;> first | (intro i; rfl) | (intro i _; rfl) | (intro i h; exact absurd h (Nat.not_lt_zero i)) | (intro i; exact scpL_rowSet (by rfl) (by rfl)) | (intro i; exact scpL_rowEl (by kernel_rfl) _)
    | (intros; (repeat' apply And.intro) <;> intros <;> first | rfl | (exact absurd (by assumption) (Nat.not_lt_zero _)))
    | omega
    | decide
theorem n_f7_3 (v : V7) : f7_3 v := by
  unfold f7_3
  first
    | (intros; rfl)
    | (intro i; rfl)
    | (intro i _; rfl)
    | (intro _ i; rfl)
    | (intro _ i _; rfl)
    | (refine ⟨?_, ?_⟩ <;> intro i <;> rfl)
    | (refine ⟨?_, ?_, ?_⟩ <;> intro i <;> rfl)
    | (refine ⟨?_, ?_⟩ <;> intro i _ <;> rfl)
    | (repeat' apply And.intro) <;> first | (intro i; rfl) | (intro i _; rfl) | (intro i h; exact absurd h (Nat.not_lt_zero i)) | (intro i; exact scpL_rowSet (by rfl) (by rfl)) | (intro i; exact scpL_rowEl (by kernel_rfl) _)
    | (intros; (repeat' apply And.intro) <;> intros <;> first | rfl | (exact absurd (by assumption) (Nat.not_lt_zero _)))
    | omega
    | decide
theorem n_f7_6 (v : V7) : f7_6 v := by
  unfold f7_6
  first
    | (intros; rfl)
    | (intro i; rfl)
    | (intro i _; rfl)
    | (intro _ i; rfl)
    | (intro _ i _; rfl)
    | (refine ⟨?_, ?_⟩ <;> intro i <;> rfl)
    | (refine ⟨?_, ?_, ?_⟩ <;> intro i <;> rfl)
    | (refine ⟨?_, ?_⟩ <;> intro i _ <;> rfl)
    | (repeat' apply And.intro) <;> first | (intro i; rfl) | (intro i _; rfl) | (intro i h; exact absurd h (Nat.not_lt_zero i)) | (intro i; exact scpL_rowSet (by rfl) (by rfl)) | (intro i; exact scpL_rowEl (by kernel_rfl) _)
    | (intros; (repeat' apply And.intro) <;> intros <;> first | rfl | (exact absurd (by assumption) (Nat.not_lt_zero _)))
    | omega
    | decide
theorem n_f7_8 (v : V7) : f7_8 v := by
  unfold f7_8
  first
    | (intros; rfl)
    | (intro i; rfl)
    | (intro i _; rfl)
    | (intro _ i; rfl)
    | (intro _ i _; rfl)
    | (refine ⟨?_, ?_⟩ <;> intro i <;> rfl)
    | (refine ⟨?_, ?_, ?_⟩ <;> intro i <;> rfl)
    | (refine ⟨?_, ?_⟩ <;> intro i _ <;> rfl)
    | (repeat' apply And.intro) <;> first | (intro i; rfl) | (intro i _; rfl) | (intro i h; exact absurd h (Nat.not_lt_zero i)) | (intro i; exact scpL_rowSet (by rfl) (by rfl)) | (intro i; exact scpL_rowEl (by kernel_rfl) _)
    | (intros; (repeat' apply And.intro) <;> intros <;> first | rfl | (exact absurd (by assumption) (Nat.not_lt_zero _)))
    | omega
    | decide
noncomputable def ff7 (v : V7) : Tr (Fin th.R) := (Tr.need (f7_0 v) (Tr.need (f7_1 v) (Tr.need (f7_2 v) (Tr.need (f7_3 v) (Tr.need (f7_4 v) (Tr.need (f7_5 v) (Tr.need (f7_6 v) (Tr.need (f7_7 v) (Tr.need (f7_8 v) (Tr.need (f7_9 v) (Tr.need (f7_10 v) (Tr.leaf (Prod.mk (SV.bool (f7_11 v)) (Prod.mk (List.cons (HO.ro ((27 : Nat)) ((2 : Nat)) (v.M) (fun j => (List.cons (SV.int (IntKind.u64) (v.F j)) (List.cons (SV.int (IntKind.u64) (v.G j)) []))) (v.ob)) []) []))))))))))))))
noncomputable def f7 (v : V7) : Tr (Fin th.R) := (Tr.need (f7_2 v) (Tr.need (f7_4 v) (Tr.need (f7_5 v) (Tr.need (f7_7 v) (Tr.need (f7_9 v) (Tr.need (f7_10 v) (Tr.leaf (Prod.mk (SV.bool (f7_11 v)) (Prod.mk (List.cons (HO.ro ((27 : Nat)) ((2 : Nat)) (v.M) (fun j => (List.cons (SV.int (IntKind.u64) (v.F j)) (List.cons (SV.int (IntKind.u64) (v.G j)) []))) (v.ob)) []) ([]))))))))))
noncomputable def C7 : CF th.R := fnC d7 ofV7 (f7 )
theorem q7 (v : V7) : (evFn th Try.prog (auto th Try.prog nice29n [] 20) (autoH [(13, L7_0), (20, L7_1)] [] [] [7, 105] : Hints th) 7) (A7 v) (H7 v) = some (ff7 v) := by kernel_rfl
theorem qg7 (v : V7) : ((ff7 v).map (setD [])).get = (f7 v).get := by kernel_rfl
theorem qd7 (v : V7) : allD 1 [] (ff7 v) = true := by kernel_rfl
theorem s7 : Sound Try.prog th 7 (C7 ) := fnC_sound (evFn_sound' (T := th) (P := Try.prog) (tbl := (auto th Try.prog nice29n [] 20)) (auto_sound (nice := nice29n) (us := []) nok29n 20) (H := (autoH [(13, L7_0), (20, L7_1)] [] [] [7, 105] : Hints th)) (k := 7) (fnLoops ok7)) d7 A7 H7 toV7 (by kernel_rfl) (fun v => by kernel_rfl)
  (fun l v h => by
    unfold ofV7 at h
    split at h
    · cases h; rfl
    · cases h)
  [] (fun v => ⟨ff7 v, q7 v, fun h => by
    unfold f7 at h; unfold ff7
    simp only [Tr.ok, n_f7_0, n_f7_1, n_f7_3, n_f7_6, n_f7_8, true_and, and_true, forall_const, implies_true] at h ⊢
    try exact h, qg7 v, qd7 v⟩)
theorem qdd7 (v : V7) : (f7 v).get.2.2 = [] := by
  rw [← qg7, Tr.map_get]; rfl
end Go.Sx.S

section
namespace Go.Sx.So
open Classical in
/-- How many addresses below n. -/
noncomputable def cnt (P : Int → Prop) : Nat → Int
  | 0 => 0
  | n + 1 => cnt P n + if P (n : Int) then 1 else 0
theorem cnt_congr {P Q : Int → Prop} : ∀ {n : Nat}, (∀ a : Nat, a < n → (P a ↔ Q a)) → cnt P n = cnt Q n
  | 0, _ => rfl
  | n + 1, h => by
    simp only [cnt]
    rw [cnt_congr fun a ha => h a (by omega)]
    have := h n (by omega)
    by_cases hp : P (n : Int)
    · rw [if_pos hp, if_pos (this.1 hp)]
    · rw [if_neg hp, if_neg fun q => hp (this.2 q)]
theorem cnt_or {P Q : Int → Prop} (h : ∀ a, P a → Q a → False) : ∀ n, cnt (fun a => P a ∨ Q a) n = cnt P n + cnt Q n
  | 0 => rfl
  | n + 1 => by
    simp only [cnt]
    rw [cnt_or h n]
    by_cases hp : P (n : Int)
    · have hq : ¬ Q (n : Int) := h _ hp
      rw [if_pos (.inl hp), if_pos hp, if_neg hq]; omega
    · by_cases hq : Q (n : Int)
      · rw [if_pos (.inr hq), if_neg hp, if_pos hq]; omega
      · rw [if_neg (fun q => q.elim hp hq), if_neg hp, if_neg hq]; omega
theorem cnt_iv {a b : Int} (h0 : 0 ≤ a) (h1 : a ≤ b) : ∀ n : Nat, cnt (fun x => a ≤ x ∧ x < b) n = min b n - min a n
  | 0 => by simp only [cnt]; omega
  | n + 1 => by
    simp only [cnt]
    rw [cnt_iv h0 h1 n]
    split <;> omega
theorem cnt_none {P : Int → Prop} (h : ∀ a, ¬ P a) : ∀ n, cnt P n = 0
  | 0 => rfl
  | n + 1 => by simp only [cnt]; rw [cnt_none h n, if_neg (h _)]; rfl
/-- The lengths together. -/
def lens (l : List Sp) : Int := l.foldl (fun s x => s + (x.2 - x.1)) 0
theorem lens_snoc (l : List Sp) (x : Sp) : lens (l ++ [x]) = lens l + (x.2 - x.1) := by simp [lens, List.foldl_append]
theorem cnt_ris {n : Nat} : ∀ (k : Nat) {l : List Sp}, l.length = k → (∀ x, x ∈ l → x.1 < x.2 ∧ 0 ≤ x.1 ∧ x.2 ≤ n) → (l.Pairwise fun x y => x.2 < y.1) → cnt (Hs l) n = lens l := by
  intro k
  induction k with
  | zero =>
    intro l hk _ _
    have : l = [] := List.eq_nil_of_length_eq_zero hk
    subst this
    exact cnt_none (fun _ => Hs_nil) n
  | succ k ih =>
    intro l hk hr hp
    rcases snoc_cases l with rfl | ⟨v, w, rfl⟩
    · simp at hk
    · have hw := hr w (by simp)
      have hpp := List.pairwise_append.1 hp
      rw [lens_snoc, ← ih (l := v) (by simpa using hk) (fun x hx => hr x (by simp [hx])) hpp.1]
      rw [cnt_congr (Q := fun a => Hs v a ∨ (w.1 ≤ a ∧ a < w.2)) fun a _ => Hs_snoc]
      rw [cnt_or (fun a h1 h2 => by
        obtain ⟨x, hx, q⟩ := h1
        have := hpp.2.2 x hx w (by simp)
        omega), cnt_iv hw.2.1 (by omega)]
      omega
theorem tot_ris : ∀ (k : Nat) {l : List Sp}, l.length = k → (∀ x, x ∈ l → x.1 < x.2 ∧ 0 ≤ x.1) → (l.Pairwise fun x y => x.2 < y.1) → (tot l).1 = lens l ∧ ∀ v w, l = v ++ [w] → (tot l).2 = w.2 := by
  intro k
  induction k with
  | zero =>
    intro l hk _ _
    have : l = [] := List.eq_nil_of_length_eq_zero hk
    subst this
    exact ⟨rfl, fun v w e => by simp at e⟩
  | succ k ih =>
    intro l hk hr hp
    rcases snoc_cases l with rfl | ⟨v, w, rfl⟩
    · simp at hk
    · have hw := hr w (by simp)
      have hpp := List.pairwise_append.1 hp
      obtain ⟨i1, i2⟩ := ih (l := v) (by simpa using hk) (fun x hx => hr x (by simp [hx])) hpp.1
      have hv : (tot v).2 ≤ w.1 := by
        rcases snoc_cases v with rfl | ⟨v', w', rfl⟩
        · exact hw.2
        · rw [i2 v' w' rfl]
          have := hpp.2.2 w' (by simp) w (by simp)
          omega
      rw [tot_snoc, tst_far hv hw.1, lens_snoc, i1]
      refine ⟨rfl, fun v' w' e => ?_⟩
      obtain ⟨rfl, rfl⟩ := snoc_inj e
      rfl
/-- Two rising lists that share out a stretch. -/
theorem share {w : Sp} {n : Nat} {l m : List Sp} (h0 : 0 ≤ w.1) (h1 : w.1 ≤ w.2) (h2 : w.2 ≤ n) (hl : ∀ x, x ∈ l → x.1 < x.2 ∧ 0 ≤ x.1 ∧ x.2 ≤ n) (hm : ∀ x, x ∈ m → x.1 < x.2 ∧ 0 ≤ x.1 ∧ x.2 ≤ n)
    (rl : l.Pairwise fun x y => x.2 < y.1) (rm : m.Pairwise fun x y => x.2 < y.1) (no : ∀ a, Hs l a → Hs m a → False) (all : ∀ a, (w.1 ≤ a ∧ a < w.2) ↔ Hs l a ∨ Hs m a) : lens l + (tot m).1 = w.2 - w.1 := by
  rw [(tot_ris _ rfl (fun x hx => ⟨(hm x hx).1, (hm x hx).2.1⟩) rm).1, ← cnt_ris _ rfl hl rl, ← cnt_ris _ rfl hm rm, ← cnt_or no, ← cnt_congr (P := fun a => w.1 ≤ a ∧ a < w.2) fun a _ => all a, cnt_iv h0 h1]
  omega
end Go.Sx.So

end

section
namespace Go.Sx
theorem u64r {n : Int} (h : (Lit.int .u64 n).wf = true) : 0 ≤ n ∧ n < 18446744073709551616 := by
  simp only [Lit.wf, Bool.and_eq_true, decide_eq_true_eq] at h
  have e1 : IntKind.u64.min = 0 := by decide +kernel
  have e2 : IntKind.u64.max = 18446744073709551615 := by decide +kernel
  rw [e1, e2] at h
  exact ⟨h.1, by omega⟩
end Go.Sx

end

namespace Go.Sx.S
open Go Go.Sx Go.Proofs Go.RowKit
set_option maxRecDepth 100000
open So
def clip (w x : Sp) : Sp := (max x.1 w.1, min x.2 w.2)
/-- What lies inside. -/
def isd (w : Sp) (l : List Sp) : List Sp := (l.filter fun x => decide (mts x w)).map (clip w)
theorem isd_snoc (w : Sp) (l : List Sp) (x : Sp) : isd w (l ++ [x]) = isd w l ++ if mts x w then [clip w x] else [] := by
  unfold isd
  rw [List.filter_append, List.map_append]
  congr 1
  by_cases h : mts x w <;> simp [h]
theorem isd_len (w : Sp) (l : List Sp) : (isd w l).length ≤ l.length := by
  unfold isd; rw [List.length_map]; exact List.length_filter_le _ _
theorem l7_0 {p : P7_0} {L : Nat} {F' G' : Nat → Int} (e1 : p.n43 = L) (e2 : p.x44 = L) (hN : L ≤ p.N0) (hL : L ≤ 1000000000) :
    LT (r7_0 p) (S7_0.mk 0 0 0 F' G') ∧ (fun s : S7_0 => s.N5 = s.n7 ∧ seg (sp s.F5_0 s.F5_1) 0 s.n7 = isd (p.xh1_0, p.xh1_1) (seg (sp p.F0_0 p.F0_1) 0 L)) (lastS (r7_0 p) (S7_0.mk 0 0 0 F' G')) := by
  refine LT.post (fun s : S7_0 => ∃ i : Nat, s.x45 = i ∧ i ≤ L ∧ s.N5 = s.n7 ∧ s.n7 ≤ i ∧ seg (sp s.F5_0 s.F5_1) 0 s.n7 = isd (p.xh1_0, p.xh1_1) (seg (sp p.F0_0 p.F0_1) 0 i))
    (fun s : S7_0 => s.N5 = s.n7 ∧ seg (sp s.F5_0 s.F5_1) 0 s.n7 = isd (p.xh1_0, p.xh1_1) (seg (sp p.F0_0 p.F0_1) 0 L)) (fun s : S7_0 => (L - s.x45).toNat) ?_ ?_
  rotate_left
  · exact ⟨0, rfl, Nat.zero_le _, rfl, Nat.le_refl _, rfl⟩
  rintro ⟨m, x, N5, A, B⟩ ⟨i, g1, g2, g3, g4, g5⟩
  simp only at g1 g3 g4 g5
  subst g1
  have w2 : IntKind.i64.wrap ((i : Int) + 1) = ((i + 1 : Nat) : Int) := by rw [wi (by omega) (by omega)]; omega
  have dec : f13_0 (p.F0_0 i) (p.F0_1 i) p.xh1_0 p.xh1_1 = decide (mts (sp p.F0_0 p.F0_1 i) (p.xh1_0, p.xh1_1)) := meets_dec (sp p.F0_0 p.F0_1 i) (p.xh1_0, p.xh1_1)
  have ea : (if p.xh1_0 > p.F0_0 i then p.xh1_0 else p.F0_0 i) = max (p.F0_0 i) p.xh1_0 := by split <;> omega
  have eb : (if p.xh1_1 < p.F0_1 i then p.xh1_1 else p.F0_1 i) = min (p.F0_1 i) p.xh1_1 := by split <;> omega
  have st := isd_snoc (p.xh1_0, p.xh1_1) (seg (sp p.F0_0 p.F0_1) 0 i) (sp p.F0_0 p.F0_1 i)
  rw [← seg_succ, ← g5] at st
  simp only [r7_0, e7_0_0, e7_0_2, e7_0_3, e7_0_4, e7_0_5, e7_0_7, e7_0_8, e7_0_9, e7_0_10, Tr.ok, Tr.get, w2, Nat.zero_add, Int.toNat_natCast, dec, ea, eb, e1, e2]
  by_cases hc : i < L
  · have hd : cnd (decide ((i : Int) < (L : Int))) false true = false := by rw [decide_eq_true (by omega)]; rfl
    rw [hd]
    by_cases hm : mts (sp p.F0_0 p.F0_1 i) (p.xh1_0, p.xh1_1)
    · rw [decide_eq_true hm]
      rw [if_pos hm] at st
      refine ⟨⟨(fun e => by cases e), fun _ => ?_⟩, .inr ⟨_, rfl, ⟨i + 1, rfl, by omega, rfl, by show m + 1 ≤ i + 1; omega, (seg_push27 (x := clip (p.xh1_0, p.xh1_1) (sp p.F0_0 p.F0_1 i))).trans st.symm⟩, by simp only [w2]; omega⟩⟩
      (repeat' apply And.intro) <;> intros <;> (repeat' apply And.intro) <;> intros <;> first | trivial | omega
    · rw [decide_eq_false hm]
      rw [if_neg hm, List.append_nil] at st
      refine ⟨⟨(fun e => by cases e), fun _ => ?_⟩, .inr ⟨_, rfl, ⟨i + 1, rfl, by omega, g3, by show m ≤ i + 1; omega, st.symm⟩, by simp only [w2]; omega⟩⟩
      (repeat' apply And.intro) <;> intros <;> (repeat' apply And.intro) <;> intros <;> first | trivial | omega | contradiction
  · have hd : cnd (decide ((i : Int) < (L : Int))) false true = true := by rw [decide_eq_false (by omega)]; rfl
    have : i = L := by omega
    subst this
    rw [hd]
    exact ⟨⟨fun _ => trivial, (fun e => by cases e)⟩, .inl ⟨⟨_, _, _, rfl⟩, g3, g5⟩⟩
theorem l7_2 {p : P7_2} {L : Nat} (e1 : p.n93 = L) (e2 : p.x94 = L) (hN : L ≤ p.N0) (hL : L ≤ 1000000000) (no : ∀ i, i < L → ¬ mts (sp p.F0_0 p.F0_1 i) (p.xh6_0, p.xh6_1)) :
    LT (r7_2 p) (S7_2.mk 0) ∧ (fun s : S7_2 => (L : Int) ≤ s.x95) (lastS (r7_2 p) (S7_2.mk 0)) := by
  refine LT.post (fun s : S7_2 => ∃ i : Nat, s.x95 = i ∧ i ≤ L) (fun s : S7_2 => (L : Int) ≤ s.x95) (fun s : S7_2 => (L - s.x95).toNat) ?_ ?_
  rotate_left
  · exact ⟨0, rfl, Nat.zero_le _⟩
  rintro ⟨x⟩ ⟨i, g1, g2⟩
  simp only at g1
  subst g1
  have w2 : IntKind.i64.wrap ((i : Int) + 1) = ((i + 1 : Nat) : Int) := by rw [wi (by omega) (by omega)]; omega
  have dec : f13_0 (p.F0_0 i) (p.F0_1 i) p.xh6_0 p.xh6_1 = decide (mts (sp p.F0_0 p.F0_1 i) (p.xh6_0, p.xh6_1)) := meets_dec (sp p.F0_0 p.F0_1 i) (p.xh6_0, p.xh6_1)
  simp only [r7_2, e7_2_0, e7_2_2, e7_2_3, e7_2_4, e7_2_6, Tr.ok, Tr.get, w2, Nat.zero_add, Int.toNat_natCast, dec, e1, e2]
  by_cases hc : i < L
  · have hd : cnd (decide ((i : Int) < (L : Int))) false true = false := by rw [decide_eq_true (by omega)]; rfl
    rw [hd, decide_eq_false (no i hc)]
    exact ⟨⟨(fun e => by cases e), fun _ => ⟨⟨by omega, by omega⟩, by omega, (fun e => by cases e), fun _ => trivial⟩⟩, .inr ⟨_, rfl, ⟨i + 1, rfl, by omega⟩, by simp only [w2]; omega⟩⟩
  · have hd : cnd (decide ((i : Int) < (L : Int))) false true = true := by rw [decide_eq_false (by omega)]; rfl
    rw [hd]
    exact ⟨⟨fun _ => trivial, (fun e => by cases e)⟩, .inl ⟨⟨_, _, _, rfl⟩, by omega⟩⟩
theorem l7_1 {p : P7_1} {L m : Nat} (e1 : p.n67 = m) (e2 : p.x68 = m) (e3 : p.n6 = m) (e4 : p.n0 = L) (h2 : m ≤ p.N2) (h4 : m ≤ p.N4) (h0 : L ≤ p.N0) (hL : L ≤ 1000000000) (hm : m ≤ 3000000000)
    (hU : ∀ j, j < m → inn (sp p.F2_0 p.F2_1 j) (p.xh1_0, p.xh1_1) ∧ p.F4_0 j = p.F2_0 j ∧ p.F4_1 j = p.F2_1 j ∧ 0 ≤ p.F2_0 j ∧ p.F2_1 j < 18446744073709551616 ∧ ∀ i, i < L → ¬ mts (sp p.F0_0 p.F0_1 i) (sp p.F2_0 p.F2_1 j))
    (hs : ∀ i, i ≤ m → 0 ≤ lens (seg (sp p.F2_0 p.F2_1) 0 i) ∧ lens (seg (sp p.F2_0 p.F2_1) 0 i) < 18446744073709551616) :
    LT (r7_1 p) (S7_1.mk 0 0) ∧ (fun s : S7_1 => (m : Int) ≤ s.x69 ∧ s.x10 = lens (seg (sp p.F2_0 p.F2_1) 0 m)) (lastS (r7_1 p) (S7_1.mk 0 0)) := by
  refine LT.post (fun s : S7_1 => ∃ i : Nat, s.x69 = i ∧ i ≤ m ∧ s.x10 = lens (seg (sp p.F2_0 p.F2_1) 0 i)) (fun s : S7_1 => (m : Int) ≤ s.x69 ∧ s.x10 = lens (seg (sp p.F2_0 p.F2_1) 0 m)) (fun s : S7_1 => (m - s.x69).toNat) ?_ ?_
  rotate_left
  · exact ⟨0, rfl, Nat.zero_le _, rfl⟩
  rintro ⟨t, x⟩ ⟨i, g1, g2, g3⟩
  simp only at g1 g3
  subst g1
  have w2 : IntKind.i64.wrap ((i : Int) + 1) = ((i + 1 : Nat) : Int) := by rw [wi (by omega) (by omega)]; omega
  simp only [r7_1, e7_1_0, e7_1_2, e7_1_3, e7_1_4, e7_1_5, e7_1_7, e7_1_8, e7_1_9, e7_1_11, Tr.ok, Tr.get, w2, Nat.zero_add, Int.toNat_natCast, e1, e2, e3, e4]
  by_cases hc : i < m
  · have hd : cnd (decide ((i : Int) < (m : Int))) false true = false := by rw [decide_eq_true (by omega)]; rfl
    obtain ⟨q1, q2, q3, q4, q5, q6⟩ := hU i hc
    have s1 := hs i (by omega)
    have s2 := hs (i + 1) (by omega)
    have st : lens (seg (sp p.F2_0 p.F2_1) 0 (i + 1)) = t + (p.F2_1 i - p.F2_0 i) := by rw [seg_succ, lens_snoc, ← g3]; rfl
    have hr : p.F2_0 i < p.F2_1 i := q1.1
    have wa : IntKind.u64.wrap (p.F2_1 i - p.F2_0 i) = p.F2_1 i - p.F2_0 i := wrap_u64_id (by omega) (by omega)
    have wb : IntKind.u64.wrap (t + (p.F2_1 i - p.F2_0 i)) = t + (p.F2_1 i - p.F2_0 i) := wrap_u64_id (by omega) (by omega)
    have dec : f15_0 (p.F2_0 i) (p.F2_1 i) p.xh1_0 p.xh1_1 = true := (in_dec (sp p.F2_0 p.F2_1 i) (p.xh1_0, p.xh1_1)).trans (decide_eq_true q1)
    have d5 : cnd (!(p.F2_0 i == p.F4_0 i && (p.F2_1 i == p.F4_1 i && true))) true (!f15_0 (p.F2_0 i) (p.F2_1 i) p.xh1_0 p.xh1_1) = false := by
      rw [dec, q2, q3]; simp [cndB]
    obtain ⟨k1, k2⟩ := l7_2 (p := P7_2.mk L m p.n7 (t + (p.F2_1 i - p.F2_0 i)) m (m : Int) (i : Int) L (L : Int) p.N0 p.O0 p.F0_0 p.F0_1 p.xh1_0 p.xh1_1 p.N2 p.F2_0 p.F2_1 p.N3 p.F3_0 p.F3_1 p.N4 p.F4_0 p.F4_1 p.N5 p.F5_0 p.F5_1 (p.F2_0 i) (p.F2_1 i)) (L := L) rfl rfl h0 hL q6
    rw [hd, d5, wa, wb]
    have d8 : ∀ s : S7_2, (L : Int) ≤ s.x95 → cnd (e7_2_0 (P7_2.mk L m p.n7 (t + (p.F2_1 i - p.F2_0 i)) m (m : Int) (i : Int) L (L : Int) p.N0 p.O0 p.F0_0 p.F0_1 p.xh1_0 p.xh1_1 p.N2 p.F2_0 p.F2_1 p.N3 p.F3_0 p.F3_1 p.N4 p.F4_0 p.F4_1 p.N5 p.F5_0 p.F5_1 (p.F2_0 i) (p.F2_1 i)) s) false true = false := fun s h => by
      simp only [e7_2_0]; rw [decide_eq_false (by omega)]; rfl
    rw [d8 _ k2]
    refine ⟨⟨(fun e => by cases e), fun _ => ⟨⟨by omega, by omega⟩, by omega, ⟨fun _ => ⟨by omega, by omega⟩, fun _ => by omega⟩, (fun e => by cases e), fun _ => ⟨k1, (fun e => by cases e), fun _ => trivial⟩⟩⟩, .inr ⟨_, rfl, ⟨i + 1, rfl, by omega, st.symm⟩, by simp only [w2]; omega⟩⟩
  · have hd : cnd (decide ((i : Int) < (m : Int))) false true = true := by rw [decide_eq_false (by omega)]; rfl
    have : i = m := by omega
    subst this
    rw [hd]
    exact ⟨⟨fun _ => trivial, (fun e => by cases e)⟩, .inl ⟨⟨_, _, _, rfl⟩, by omega, g3⟩⟩
theorem Hs_fl {E : Nat → Sp} {L : Nat} {a : Int} : Hs (flt E L) a ↔ Hs (seg E 0 L) a := by
  constructor
  · rintro ⟨x, hx, h⟩
    exact ⟨x, (List.mem_filter.1 hx).1, h⟩
  · rintro ⟨x, hx, h⟩
    exact ⟨x, List.mem_filter.2 ⟨hx, rgt_iff.2 (by omega)⟩, h⟩
theorem hl_ris (E : Nat → Sp) (L : Nat) {w : Sp} (hw : w.1 < w.2) : Ris (HL E L w) fun a => w.1 ≤ a ∧ a < w.2 ∧ ¬ Hs (seg E 0 L) a := by
  have h := hol_seg (w := w) (n := (RS E L).length) (R := RSr E L) (rs_sorted rfl rfl) (rs_right rfl rfl) _ (Nat.le_refl _)
  have e : seg (RSr E L) 0 (RS E L).length = RS E L := rs_seg rfl rfl
  rw [e] at h
  have r := hol_ris h hw
  have e2 : HL E L w = if (hol0 w (RS E L)).2 < w.2 then (hol0 w (RS E L)).1 ++ [((hol0 w (RS E L)).2, w.2)] else (hol0 w (RS E L)).1 := by
    unfold HL hol; rw [if_pos hw]
  rw [e2]
  refine ⟨r.right, r.rise, fun a => ?_⟩
  rw [r.cov a, show Hs (RS E L) a ↔ Hs (seg E 0 L) a from Hs_flt]
theorem hl_same (E : Nat → Sp) (L : Nat) {w : Sp} (hw : w.1 < w.2) : HL (gt (flt E L)) (flt E L).length w = HL E L w := by
  refine Ris.unique (hl_ris _ _ hw) ?_
  have r := hl_ris E L hw
  refine ⟨r.right, r.rise, fun a => ?_⟩
  rw [r.cov a, gt_seg, Hs_fl]
theorem hl_in {E : Nat → Sp} {L : Nat} {w : Sp} (hw : w.1 < w.2) {x : Sp} (hx : x ∈ HL E L w) : inn x w := by
  have r := hl_ris E L hw
  have h1 := r.right x hx
  have a1 := (r.cov x.1).1 ⟨x, hx, Int.le_refl _, h1⟩
  have a2 := (r.cov (x.2 - 1)).1 ⟨x, hx, by omega, by omega⟩
  exact ⟨h1, hw, a1.1, by omega⟩
theorem hl_no {E : Nat → Sp} {L : Nat} {w : Sp} (hw : w.1 < w.2) {x : Sp} (hx : x ∈ HL E L w) {i : Nat} (hi : i < L) : ¬ mts (E i) x := by
  rintro ⟨m1, m2, m3, m4⟩
  have r := hl_ris E L hw
  have a1 := (r.cov (max (E i).1 x.1)).1 ⟨x, hx, by omega, by omega⟩
  exact a1.2.2 ⟨E i, mem_seg.2 ⟨i, hi, rfl⟩, by omega, by omega⟩
theorem Hs_isd {w : Sp} {l : List Sp} {a : Int} : Hs (isd w l) a ↔ Hs l a ∧ w.1 ≤ a ∧ a < w.2 := by
  constructor
  · rintro ⟨x, hx, h⟩
    obtain ⟨y, hy, rfl⟩ := List.mem_map.1 hx
    have := (List.mem_filter.1 hy).1
    simp only [clip] at h
    exact ⟨⟨y, this, by omega⟩, by omega, by omega⟩
  · rintro ⟨⟨x, hx, h⟩, q1, q2⟩
    refine ⟨clip w x, List.mem_map.2 ⟨x, List.mem_filter.2 ⟨hx, decide_eq_true ⟨by omega, by omega, by omega, by omega⟩⟩, rfl⟩, ?_⟩
    simp only [clip]
    omega
theorem isd_nn {w : Sp} {l : List Sp} (hw : 0 ≤ w.1) {x : Sp} (hx : x ∈ isd w l) : 0 ≤ x.1 ∧ x.2 ≤ w.2 := by
  obtain ⟨y, hy, rfl⟩ := List.mem_map.1 hx
  simp only [clip]
  omega
theorem holes_sum {E : Nat → Sp} {L : Nat} {w : Sp} (hw : w.1 < w.2) (h0 : 0 ≤ w.1) :
    lens (HL E L w) + (tot (RS (gt (isd w (seg E 0 L))) (isd w (seg E 0 L)).length)).1 = w.2 - w.1 := by
  have r := hl_ris E L hw
  have hnn : ∀ i, i < (isd w (seg E 0 L)).length → 0 ≤ (gt (isd w (seg E 0 L)) i).1 ∧ (gt (isd w (seg E 0 L)) i).2 ≤ w.2 := fun i hi => isd_nn h0 (gt_mem hi)
  have ui : UI (RS (gt (isd w (seg E 0 L))) (isd w (seg E 0 L)).length) (UN (gt (isd w (seg E 0 L))) (isd w (seg E 0 L)).length) := by
    have h := un_seg (n := (RS (gt (isd w (seg E 0 L))) (isd w (seg E 0 L)).length).length) (R := RSr (gt (isd w (seg E 0 L))) (isd w (seg E 0 L)).length) (rs_sorted rfl rfl) (rs_right rfl rfl) (rs_mem (p := fun x => 0 ≤ x.1) fun i hi => (hnn i hi).1) _ (Nat.le_refl _)
    have e : seg (RSr (gt (isd w (seg E 0 L))) (isd w (seg E 0 L)).length) 0 (RS (gt (isd w (seg E 0 L))) (isd w (seg E 0 L)).length).length = RS (gt (isd w (seg E 0 L))) (isd w (seg E 0 L)).length := rs_seg rfl rfl
    rw [e] at h
    exact h
  have hcov : ∀ a, Hs (UN (gt (isd w (seg E 0 L))) (isd w (seg E 0 L)).length) a ↔ Hs (seg E 0 L) a ∧ w.1 ≤ a ∧ a < w.2 := fun a => by
    rw [ui.cov a, show Hs (RS (gt (isd w (seg E 0 L))) (isd w (seg E 0 L)).length) a ↔ Hs (seg (gt (isd w (seg E 0 L))) 0 (isd w (seg E 0 L)).length) a from Hs_flt, gt_seg, Hs_isd]
  have en : ((w.2.toNat : Nat) : Int) = w.2 := by omega
  rw [← ui.same]
  refine share (n := w.2.toNat) h0 (by omega) (by omega) (fun x hx => ?_) (fun x hx => ?_) r.rise ui.rise (fun a h1 h2 => ?_) fun a => ?_
  · have := hl_in hw hx
    exact ⟨this.1, by have := this.2.2.1; omega, by have := this.2.2.2; omega⟩
  · have h1 := ui.right x hx
    have a1 := (hcov x.1).1 ⟨x, hx, Int.le_refl _, h1⟩
    have a2 := (hcov (x.2 - 1)).1 ⟨x, hx, by omega, by omega⟩
    exact ⟨h1, by omega, by omega⟩
  · exact ((r.cov a).1 h1).2.2 ((hcov a).1 h2).1
  · rw [r.cov a, hcov a]
    by_cases h : Hs (seg E 0 L) a
    · exact ⟨fun q => .inr ⟨h, q⟩, fun q => by rcases q with q | q; exact ⟨q.1, q.2.1⟩; exact q.2⟩
    · exact ⟨fun q => .inl ⟨q.1, q.2, h⟩, fun q => by rcases q with q | q; exact ⟨q.1, q.2.1⟩; exact q.2⟩
theorem lens_nn {U : Nat → Sp} : ∀ m : Nat, (∀ j, j < m → (U j).1 < (U j).2) → 0 ≤ lens (seg U 0 m)
  | 0, _ => Int.le_refl _
  | m + 1, hr => by
    have h := lens_nn m fun j hj => hr j (by omega)
    have hm := hr m (by omega)
    rw [seg_succ, lens_snoc]
    omega
theorem lens_le {U : Nat → Sp} (i : Nat) : ∀ d : Nat, (∀ j, j < i + d → (U j).1 < (U j).2) → lens (seg U 0 i) ≤ lens (seg U 0 (i + d))
  | 0, _ => Int.le_refl _
  | d + 1, hr => by
    have h := lens_le i d fun j hj => hr j (by omega)
    have hm := hr (i + d) (by omega)
    rw [← Nat.add_assoc, seg_succ, lens_snoc]
    omega
theorem RS_congr {A B : Nat → Sp} {n : Nat} (h : seg A 0 n = seg B 0 n) : RS A n = RS B n := by
  have e : ∀ E : Nat → Sp, RS E n = ((seg E 0 n).mergeSort le).filter rgt := fun E => by
    have := srt_seg E 0 n
    rw [Nat.sub_zero] at this
    rw [← this]; rfl
  rw [e, e, h]
def pre7 (v : V7) : Prop := v.L ≤ v.M ∧ (∀ i, i < v.L → 0 ≤ v.F i ∧ v.G i < 18446744073709551616) ∧ 0 ≤ v.wf ∧ v.wt < 18446744073709551616
theorem holesT (c d : Bool) (a b s t x m : Int) (h1 : a = b) (h2 : d = true) (h3 : m ≤ x) (h4 : s = t) :
    cnd (cnd (a != b) true !d) false (cnd (cnd (cnd (decide (x < m)) false true) false c) false (cnd (cnd (cnd (decide (x < m)) false true) false true) false (s == t))) = true := by
  subst h1 h2 h4
  rw [decide_eq_false (by omega)]
  simp [cndB]
theorem n7 (v : V7) (h : pre7 v) : (f7 v).ok ∧ (f7 v).get.1 = .bool true ∧ HOws (f7 v).get.2.1 [HO.ro 27 2 v.M (fun j => [SV.int .u64 (v.F j), SV.int .u64 (v.G j)]) v.ob] := by
  cases v with
  | mk L wf wt M ob F G =>
  obtain ⟨h, hw, h0, h64⟩ : L ≤ M ∧ (∀ i, i < L → 0 ≤ F i ∧ G i < 18446744073709551616) ∧ 0 ≤ wf ∧ wt < 18446744073709551616 := h
  by_cases hL : L ≤ 40
  · have hd : decide ((L : Int) > 40) = false := decide_eq_false (by omega)
    have hb : L ≤ 1000000000 := by omega
    by_cases hr : wf < wt
    · have d11 : (!f11_0 wf wt) = false := by simp [f11_0, hr]
      have hsame : HL (sp (fun j => (gt (flt (sp F G) L) j).1) fun j => (gt (flt (sp F G) L) j).2) (flt (sp F G) L).length (wf, wt) = HL (sp F G) L (wf, wt) := hl_same (sp F G) L (w := (wf, wt)) hr
      have r := hl_ris (sp F G) L (w := (wf, wt)) hr
      have hfl := flt_length (sp F G) L
      have hrs : (RS (sp F G) L).length ≤ L := flt_length _ _
      have hlen : (HL (sp F G) L (wf, wt)).length ≤ L + 1 := by
        have hi := hol_seg (w := (wf, wt)) (n := (RS (sp F G) L).length) (R := RSr (sp F G) L) (rs_sorted rfl rfl) (rs_right rfl rfl) _ (Nat.le_refl _)
        have e : seg (RSr (sp F G) L) 0 (RS (sp F G) L).length = RS (sp F G) L := rs_seg rfl rfl
        rw [e] at hi
        have := hi.len
        unfold HL hol
        rw [if_pos (show (wf, wt).1 < (wf, wt).2 from hr)]
        split
        · rw [List.length_append, List.length_singleton]; omega
        · omega
      obtain ⟨k1, k2, k3⟩ := l7_0 (p := P7_0.mk L (HL (sp F G) L (wf, wt)).length (HL (sp (fun j => (gt (flt (sp F G) L) j).1) fun j => (gt (flt (sp F G) L) j).2) (flt (sp F G) L).length (wf, wt)).length L (L : Int) M ob F G wf wt (HL (sp F G) L (wf, wt)).length (fun j => (gt (HL (sp F G) L (wf, wt)) j).1) (fun j => (gt (HL (sp F G) L (wf, wt)) j).2) (flt (sp F G) L).length (fun j => (gt (flt (sp F G) L) j).1) (fun j => (gt (flt (sp F G) L) j).2) (HL (sp (fun j => (gt (flt (sp F G) L) j).1) fun j => (gt (flt (sp F G) L) j).2) (flt (sp F G) L).length (wf, wt)).length (fun j => (gt (HL (sp (fun j => (gt (flt (sp F G) L) j).1) fun j => (gt (flt (sp F G) L) j).2) (flt (sp F G) L).length (wf, wt)) j).1) (fun j => (gt (HL (sp (fun j => (gt (flt (sp F G) L) j).1) fun j => (gt (flt (sp F G) L) j).2) (flt (sp F G) L).length (wf, wt)) j).2)) (L := L) (F' := colI (fun j => []) 0) (G' := colI (fun j => []) 1) rfl rfl h hb
      have k2 : (f7z0 (V7.mk L wf wt M ob F G)).N5 = (f7z0 (V7.mk L wf wt M ob F G)).n7 := k2
      have k3 : seg (sp (f7z0 (V7.mk L wf wt M ob F G)).F5_0 (f7z0 (V7.mk L wf wt M ob F G)).F5_1) 0 (f7z0 (V7.mk L wf wt M ob F G)).n7 = isd (wf, wt) (seg (sp F G) 0 L) := k3
      have kn : (f7z0 (V7.mk L wf wt M ob F G)).n7 = (isd (wf, wt) (seg (sp F G) 0 L)).length := by rw [← k3, seg_length]
      have kl : (isd (wf, wt) (seg (sp F G) 0 L)).length ≤ L := by have := isd_len (wf, wt) (seg (sp F G) 0 L); rwa [seg_length] at this
      have hsum := holes_sum (E := sp F G) (L := L) (w := (wf, wt)) hr h0
      have etot : (tot (RS (sp (f7z0 (V7.mk L wf wt M ob F G)).F5_0 (f7z0 (V7.mk L wf wt M ob F G)).F5_1) (f7z0 (V7.mk L wf wt M ob F G)).n7)).1 = (tot (RS (gt (isd (wf, wt) (seg (sp F G) 0 L))) (isd (wf, wt) (seg (sp F G) 0 L)).length)).1 := by
        rw [← kn]
        refine congrArg (fun l => (tot l).1) (RS_congr (k3.trans ?_))
        rw [kn, gt_seg]
      have hrise : ∀ j, j < (HL (sp F G) L (wf, wt)).length → (gt (HL (sp F G) L (wf, wt)) j).1 < (gt (HL (sp F G) L (wf, wt)) j).2 := fun j hj => r.right _ (gt_mem hj)
      have hcnt : lens (HL (sp F G) L (wf, wt)) ≤ wt - wf ∧ 0 ≤ lens (HL (sp F G) L (wf, wt)) := by
        have e := lens_nn (U := gt (HL (sp F G) L (wf, wt))) _ hrise
        rw [gt_seg] at e
        refine ⟨?_, e⟩
        have hq : ∀ x, x ∈ HL (sp F G) L (wf, wt) → x.1 < x.2 ∧ 0 ≤ x.1 ∧ x.2 ≤ (wt.toNat : Int) := fun x hx => by
          have := hl_in (w := (wf, wt)) hr hx
          have a1 : wf ≤ x.1 := this.2.2.1
          have a2 : x.2 ≤ wt := this.2.2.2
          exact ⟨this.1, by omega, by omega⟩
        have q1 := cnt_ris (n := wt.toNat) _ rfl hq r.rise
        have q2 := cnt_or (P := Hs (HL (sp F G) L (wf, wt))) (Q := fun a => (wf ≤ a ∧ a < wt) ∧ ¬ Hs (HL (sp F G) L (wf, wt)) a) (fun a x y => y.2 x) wt.toNat
        have q3 := cnt_congr (n := wt.toNat) (P := fun a => wf ≤ a ∧ a < wt) (Q := fun a => Hs (HL (sp F G) L (wf, wt)) a ∨ ((wf ≤ a ∧ a < wt) ∧ ¬ Hs (HL (sp F G) L (wf, wt)) a)) fun a _ => by
          constructor
          · intro q
            by_cases hh : Hs (HL (sp F G) L (wf, wt)) a
            · exact .inl hh
            · exact .inr ⟨q, hh⟩
          · rintro (q | q)
            · have := (r.cov a).1 q; exact ⟨this.1, this.2.1⟩
            · exact q.1
        have q4 := cnt_iv (a := wf) (b := wt) h0 (by omega) wt.toNat
        have q5 : ∀ (P : Int → Prop) (n : Nat), 0 ≤ So.cnt P n := fun P n => by
          induction n with
          | zero => exact Int.le_refl _
          | succ n ih => simp only [So.cnt]; split <;> omega
        have q6 := q5 (fun a => (wf ≤ a ∧ a < wt) ∧ ¬ Hs (HL (sp F G) L (wf, wt)) a) wt.toNat
        have q7 : So.cnt (Hs (HL (sp F G) L (wf, wt))) wt.toNat = lens (HL (sp F G) L (wf, wt)) := q1
        omega
      obtain ⟨k4, k5, k6⟩ := l7_1 (p := P7_1.mk L (HL (sp (fun j => (gt (flt (sp F G) L) j).1) fun j => (gt (flt (sp F G) L) j).2) (flt (sp F G) L).length (wf, wt)).length (f7z0 (V7.mk L wf wt M ob F G)).n7 (HL (sp F G) L (wf, wt)).length ((HL (sp F G) L (wf, wt)).length : Int) M ob F G wf wt (HL (sp F G) L (wf, wt)).length (fun j => (gt (HL (sp F G) L (wf, wt)) j).1) (fun j => (gt (HL (sp F G) L (wf, wt)) j).2) (flt (sp F G) L).length (fun j => (gt (flt (sp F G) L) j).1) (fun j => (gt (flt (sp F G) L) j).2) (HL (sp (fun j => (gt (flt (sp F G) L) j).1) fun j => (gt (flt (sp F G) L) j).2) (flt (sp F G) L).length (wf, wt)).length (fun j => (gt (HL (sp (fun j => (gt (flt (sp F G) L) j).1) fun j => (gt (flt (sp F G) L) j).2) (flt (sp F G) L).length (wf, wt)) j).1) (fun j => (gt (HL (sp (fun j => (gt (flt (sp F G) L) j).1) fun j => (gt (flt (sp F G) L) j).2) (flt (sp F G) L).length (wf, wt)) j).2) (f7z0 (V7.mk L wf wt M ob F G)).N5 (f7z0 (V7.mk L wf wt M ob F G)).F5_0 (f7z0 (V7.mk L wf wt M ob F G)).F5_1) (L := L) (m := (HL (sp F G) L (wf, wt)).length) rfl rfl (congrArg List.length hsame) rfl (Nat.le_refl _) (Nat.le_of_eq (congrArg List.length hsame).symm) h hb (by omega)
        (fun j hj => by
          have hin := hl_in (w := (wf, wt)) hr (gt_mem hj)
          have a1 : wf ≤ (gt (HL (sp F G) L (wf, wt)) j).1 := hin.2.2.1
          have a2 : (gt (HL (sp F G) L (wf, wt)) j).2 ≤ wt := hin.2.2.2
          exact ⟨hin, congrArg (fun l => (gt l j).1) hsame, congrArg (fun l => (gt l j).2) hsame, by show 0 ≤ (gt (HL (sp F G) L (wf, wt)) j).1; omega, by show (gt (HL (sp F G) L (wf, wt)) j).2 < _; omega, fun i hi => hl_no (w := (wf, wt)) hr (gt_mem hj) hi⟩)
        (fun i hi => by
          show 0 ≤ lens (seg (gt (HL (sp F G) L (wf, wt))) 0 i) ∧ lens (seg (gt (HL (sp F G) L (wf, wt))) 0 i) < _
          have b1 := lens_nn (U := gt (HL (sp F G) L (wf, wt))) i fun j hj => hrise j (by omega)
          have b2 := lens_le (U := gt (HL (sp F G) L (wf, wt))) i ((HL (sp F G) L (wf, wt)).length - i) fun j hj => hrise j (by omega)
          rw [show i + ((HL (sp F G) L (wf, wt)).length - i) = (HL (sp F G) L (wf, wt)).length by omega, gt_seg] at b2
          omega)
      have k6 : (f7z1 (V7.mk L wf wt M ob F G)).x10 = lens (HL (sp F G) L (wf, wt)) := k6.trans (congrArg lens (gt_seg _))
      have ea : decide (Ap (seg (gt (HL (sp F G) L (wf, wt))) 0 (HL (sp F G) L (wf, wt)).length)) = true := by
        rw [gt_seg]; exact decide_eq_true (rise_ap r.right r.rise)
      refine ⟨⟨fun _ _ => ⟨h, by show L ≤ 10000000000; omega⟩, fun _ _ _ => ?_, fun _ _ _ _ => ?_, fun _ _ _ _ => k1, fun _ _ _ _ => k4, fun _ _ _ _ _ _ => ?_, trivial⟩, ?_, .refl _⟩
      · (repeat' apply And.intro) <;> intros <;> (repeat' apply And.intro) <;> intros <;> first | rfl | exact h | exact hb | exact hr | exact Nat.le_refl _ | (show (flt (sp F G) L).length ≤ _; omega) | (show (HL (sp F G) L (wf, wt)).length ≤ _; omega)
      · (repeat' apply And.intro) <;> intros <;> (repeat' apply And.intro) <;> intros <;> first | rfl | exact h | exact hb | exact hr | exact Nat.le_refl _ | (show (flt (sp F G) L).length ≤ _; omega) | (show (HL (sp F G) L (wf, wt)).length ≤ _; omega)
      · have hp : pre26 (V26.mk (f7z0 (V7.mk L wf wt M ob F G)).n7 (f7z0 (V7.mk L wf wt M ob F G)).N5 (.cells #[] 0) (f7z0 (V7.mk L wf wt M ob F G)).F5_0 (f7z0 (V7.mk L wf wt M ob F G)).F5_1) := by
          refine ⟨Nat.le_of_eq k2.symm, by show (f7z0 (V7.mk L wf wt M ob F G)).n7 ≤ 30000000000; omega, fun i hi => ?_⟩
          have hi : i < (f7z0 (V7.mk L wf wt M ob F G)).n7 := hi
          have g := gt_of k3 i hi
          have nn := isd_nn (w := (wf, wt)) (l := seg (sp F G) 0 L) h0 (gt_mem (by rw [← kn]; exact hi))
          rw [g] at nn
          have a2 : (f7z0 (V7.mk L wf wt M ob F G)).F5_1 i ≤ wt := nn.2
          exact ⟨nn.1, by show (f7z0 (V7.mk L wf wt M ob F G)).F5_1 i < _; omega⟩
        (repeat' apply And.intro) <;> intros <;> (repeat' apply And.intro) <;> intros <;> first | rfl | exact hp.1 | exact hp.2.1 | exact hp.2.2 _ (by assumption) | exact (hp.2.2 _ (by assumption)).1 | exact (hp.2.2 _ (by assumption)).2
      · refine congrArg SV.bool ?_
        unfold f7_11
        rw [hd]
        simp only [d11]
        refine holesT _ _ _ _ _ _ _ _ (by rw [hsame]) ea k5 ?_
        refine congrArg IntKind.u64.wrap ?_
        rw [k6]
        refine (congrArg (fun t => lens (HL (sp F G) L (wf, wt)) + t) etot).trans hsum
    · have d11 : (!f11_0 wf wt) = true := by simp [f11_0, hr]
      have no : ∀ {p : Prop}, (!f11_0 wf wt) = false → p := fun e => by rw [d11] at e; cases e
      have hz : HL (sp F G) L (wf, wt) = [] := by unfold HL; rw [if_neg (show ¬ (wf, wt).1 < (wf, wt).2 from hr)]
      refine ⟨⟨fun _ _ => ⟨h, by show L ≤ 10000000000; omega⟩, fun _ _ e => no e, fun _ _ e => no e, fun _ _ e => no e, fun _ _ e => no e, fun _ _ e => no e, trivial⟩, ?_, .refl _⟩
      refine congrArg SV.bool ?_
      unfold f7_11
      rw [hd]
      simp only [d11]
      show (((HL (sp F G) L (wf, wt)).length : Int) == 0) = true
      rw [hz]; rfl
  · have hd : decide ((L : Int) > 40) = true := decide_eq_true (by omega)
    have no : ∀ {p : Prop}, decide ((L : Int) > 40) = false → p := fun e => by rw [hd] at e; cases e
    refine ⟨⟨fun _ e => no e, fun _ e => no e, fun _ e => no e, fun _ e => no e, fun _ e => no e, fun _ e => no e, trivial⟩, ?_, .refl _⟩
    refine congrArg SV.bool ?_
    unfold f7_11
    rw [hd]
    rfl
noncomputable def f7n (v : V7) : Tr (Fin th.R) := .need (pre7 v) (.leaf (.bool true, [.ro 27 2 v.M (fun j => [.int .u64 (v.F j), .int .u64 (v.G j)]) v.ob], []))
theorem s7n : Sound Try.prog th 7 (fnC d7 ofV7 f7n) := fnC_refine s7 fun v h => by
  obtain ⟨hp, _⟩ := h
  obtain ⟨a, b, c⟩ := n7 v hp
  exact ⟨a, b.symm, (qdd7 v).symm, c, by show 1 ≤ 1; decide⟩
theorem claw7 (v : V7) : fnC d7 ofV7 f7n (A7 v) (H7 v) = some (.need (∀ i, i < v.M → (fun j => [.int .u64 (v.F j), .int .u64 (v.G j)] : Nat → List SV) i = elC (fun j => [.int .u64 (v.F j), .int .u64 (v.G j)] : Nat → List SV) 0 [.int .u64, .int .u64] i) ((f7n v).map (fixF (H7 v)))) := by kernel_rfl
noncomputable def nice7n : List (Nat × CF th.R) := (7, lift (fnC d7 ofV7 f7n)) :: nice29n
theorem nok7n : NiceOk Try.prog th nice7n := ⟨lift_sound s7n, nok29n⟩
end Go.Sx.S

