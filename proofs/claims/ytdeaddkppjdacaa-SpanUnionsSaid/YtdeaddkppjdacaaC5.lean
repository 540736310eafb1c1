/- Contracts of the functions of this seat, each by the executor and the kernel; part 5. Their conditions stand in each. -/
import Derived.Test.YtdeaddkppjdacaaC4
set_option linter.unusedVariables false
set_option linter.unusedSimpArgs false
namespace Go.Sx.S
open Go Go.Sx Go.Proofs Go.RowKit
set_option maxRecDepth 100000
structure V6 where
  L : Nat
  at_ : Int
  M : Nat
  ob : Obj
  F : Nat → Int
  G : Nat → Int
def A6 (v : V6) : List SV := [.slc 0 2 0 v.L, .int .u64 v.at_]
def H6 (v : V6) : List (HO th.R) := [.ro 27 2 v.M (fun j => [.int .u64 (v.F j), .int .u64 (v.G j)]) v.ob]
def toV6 (v : V6) : List (Vl th.R) := [.n v.L, .i v.at_, .n v.M, .o v.ob, .c v.F, .c v.G]
def ofV6 : List (Vl th.R) → Option V6
  | [.n L, .i at_, .n M, .o ob, .c F, .c G] => some ⟨L, at_, M, ob, F, G⟩
  | _ => none
def d6 : Ft := ⟨[.slc0 0 2, .int .u64], [.roc 27 [.int .u64, .int .u64]]⟩
structure P6_0 where
  n0 : Nat
  b4 : Bool
  n5 : Nat
  n39 : Nat
  x40 : Int
  N0 : Nat
  O0 : Obj
  F0_0 : Nat → Int
  F0_1 : Nat → Int
  N1 : Nat
  F1_0 : Nat → Int
  F1_1 : Nat → Int
structure S6_0 where
  x41 : Int
instance : Inhabited S6_0 := ⟨⟨0⟩⟩
def I6_0 (p : P6_0) (s : S6_0) : St th.R := ⟨[some (.slc 0 2 0 p.n0), none, none, none, some (.bool p.b4), some (.slc 1 2 0 p.n5), none, none, none, none, none, none, none, none, none, none, none, none, none, none, none, none, none, none, none, none, none, none, none, none, none, none, none, none, none, none, none, none, none, some (.slc 1 2 0 p.n39), some (.int .i64 p.x40), some (.int .i64 s.x41), none, none, none, none, none, none, none, none, none, none, none, none, none, none, none, none, none, none, none, none, none, none, none, none, none, none, none, none, none, none, none, none, none, none, none, none, none, none, none, none, none, none, none], [.ro 27 2 p.N0 (fun j => [.int .u64 (p.F0_0 j), .int .u64 (p.F0_1 j)]) p.O0, .row 27 2 p.N1 (fun j => [.int .u64 (p.F1_0 j), .int .u64 (p.F1_1 j)])], [], []⟩
def d6_0 : Lp := ⟨⟨85, [(0, .slc0 0 2), (4, .bool), (5, .slc0 1 2), (39, .slc0 1 2), (40, .int .i64), (41, .int .i64)], [.roc 27 [.int .u64, .int .u64], .rowc 27 [.int .u64, .int .u64]]⟩, [], 2, [], [0, 4, 5, 77, 78, 79], []⟩
def toV6_0 (p : P6_0) (s : S6_0) : List (Vl th.R) := [.n p.n0, .b p.b4, .n p.n5, .n p.n39, .i p.x40, .i s.x41, .n p.N0, .o p.O0, .c p.F0_0, .c p.F0_1, .n p.N1, .c p.F1_0, .c p.F1_1]
def ofV6_0 : List (Vl th.R) → Option (P6_0 × S6_0)
  | [.n n0, .b b4, .n n5, .n n39, .i x40, .i x41, .n N0, .o O0, .c F0_0, .c F0_1, .n N1, .c F1_0, .c F1_1] => some (⟨n0, b4, n5, n39, x40, N0, O0, F0_0, F0_1, N1, F1_0, F1_1⟩, ⟨x41⟩)
  | _ => none
noncomputable def e6_0_0 (p : P6_0) (s : S6_0) : (Bool) := cnd (decide (s.x41 < p.x40)) false true
noncomputable def e6_0_1 (p : P6_0) (s : S6_0) : (Prop) := (∀ (i : Nat), scpL (0:Nat) ((fun (j : Nat) => [SV.int IntKind.u64 (p.F0_0 j), SV.int IntKind.u64 (p.F0_1 j)]) i) = true) ∧ ∀ (i : Nat), scpL (0:Nat) ((fun (j : Nat) => [SV.int IntKind.u64 (p.F1_0 j), SV.int IntKind.u64 (p.F1_1 j)]) i) = true
noncomputable def e6_0_2 (p : P6_0) (s : S6_0) : (Prop) := (0 : Int) ≤ s.x41 ∧ s.x41 < (↑p.n39 : Int)
noncomputable def e6_0_3 (p : P6_0) (s : S6_0) : (Prop) := (0:Nat) + s.x41.toNat < p.N1
noncomputable def e6_0_4 (p : P6_0) (s : S6_0) : (Prop) := (cnd (decide (s.x41 > (0 : Int))) true false = true → (0 : Int) ≤ IntKind.i64.wrap (s.x41 - (1 : Int)) ∧ IntKind.i64.wrap (s.x41 - (1 : Int)) < (↑p.n5 : Int)) ∧ (cnd (decide (s.x41 > (0 : Int))) true false = true → (0:Nat) + (IntKind.i64.wrap (s.x41 - (1 : Int))).toNat < p.N1)
noncomputable def e6_0_5 (p : P6_0) (s : S6_0) : (Bool) := cnd (decide (s.x41 > (0 : Int))) (decide (p.F1_1 ((0:Nat) + (IntKind.i64.wrap (s.x41 - (1 : Int))).toNat) ≥ p.F1_0 ((0:Nat) + s.x41.toNat))) false
noncomputable def e6_0_6 (p : P6_0) (s : S6_0) : (Prop) := ((∀ (i : Nat), scpL (0:Nat) ((fun (j : Nat) => [SV.int IntKind.u64 (p.F0_0 j), SV.int IntKind.u64 (p.F0_1 j)]) i) = true) ∧ ∀ (i : Nat), scpL (0:Nat) ((fun (j : Nat) => [SV.int IntKind.u64 (p.F1_0 j), SV.int IntKind.u64 (p.F1_1 j)]) i) = true) ∧ (∀ (i : Nat), i < p.N0 → (fun (j : Nat) => [SV.int IntKind.u64 (p.F0_0 j), SV.int IntKind.u64 (p.F0_1 j)]) i = elC (fun (j : Nat) => [SV.int IntKind.u64 (p.F0_0 j), SV.int IntKind.u64 (p.F0_1 j)]) (0:Nat) [Ck.int IntKind.u64, Ck.int IntKind.u64] i) ∧ ∀ (i : Nat), i < p.N1 → (fun (j : Nat) => [SV.int IntKind.u64 (p.F1_0 j), SV.int IntKind.u64 (p.F1_1 j)]) i = elC (fun (j : Nat) => [SV.int IntKind.u64 (p.F1_0 j), SV.int IntKind.u64 (p.F1_1 j)]) (0:Nat) [Ck.int IntKind.u64, Ck.int IntKind.u64] i
noncomputable def e6_0_7 (p : P6_0) (s : S6_0) : (Int) := IntKind.i64.wrap (s.x41 + (1 : Int))
theorem n_e6_0_1 (p : P6_0) (s : S6_0) : e6_0_1 p s := by
  unfold e6_0_1
  first
    | (intros; rfl)
    | (intro i; rfl)
    | (intro i _; rfl)
    | (intro _ i; rfl)
    | (intro _ i _; rfl)
    | (refine ⟨?_, ?_⟩ <;> intro i <;> rfl)
    | (refine ⟨?_, ?_, ?_⟩ <;> intro i <;> rfl)
    | (refine ⟨?_, ?_⟩ <;> intro i _ <;> rfl)
    | (repeat' apply And.intro) <;> first | (intro i; rfl) | (intro i _; rfl) | (intro i h; exact absurd h (Nat.not_lt_zero i)) | (intro i; exact scpL_rowSet (by rfl) (by rfl)) | (intro i; exact scpL_rowEl (by kernel_rfl) _)
    | (intros; (repeat' apply And.intro) <;> intros <;> first | rfl | (exact absurd (by assumption) (Nat.not_lt_zero _)))
    | omega
    | decide
theorem n_e6_0_6 (p : P6_0) (s : S6_0) : e6_0_6 p s := by
  unfold e6_0_6
  first
    | (intros; rfl)
    | (intro i; rfl)
    | (intro i _; rfl)
    | (intro _ i; rfl)
    | (intro _ i _; rfl)
    | (refine ⟨?_, ?_⟩ <;> intro i <;> rfl)
    | (refine ⟨?_, ?_, ?_⟩ <;> intro i <;> rfl)
    | (refine ⟨?_, ?_⟩ <;> intro i _ <;> rfl)
    | (repeat' apply And.intro) <;> first | (intro i; rfl) | (intro i _; rfl) | (intro i h; exact absurd h (Nat.not_lt_zero i)) | (intro i; exact scpL_rowSet (by rfl) (by rfl)) | (intro i; exact scpL_rowEl (by kernel_rfl) _)
    | (intros; (repeat' apply And.intro) <;> intros <;> first | rfl | (exact absurd (by assumption) (Nat.not_lt_zero _)))
    | omega
    | decide
noncomputable def rf6_0 (p : P6_0) (s : S6_0) : Tr (Rs th.R S6_0) := (Tr.ite (e6_0_0 p s) (Tr.need (e6_0_1 p s) (Tr.leaf (Rs.out (Ex.exit ((0:Nat))) (List.cons (Option.some (SV.slc ((0:Nat)) ((2 : Nat)) ((0:Nat)) (p.n0))) (none :: (none :: (none :: (List.cons (Option.some (SV.bool (p.b4))) (List.cons (Option.some (SV.slc ((1 : Nat)) ((2 : Nat)) ((0:Nat)) (p.n5))) (none :: (none :: (none :: (none :: (none :: (none :: (none :: (none :: (none :: (none :: (none :: (none :: (none :: (none :: (none :: (none :: (none :: (none :: (none :: (none :: (none :: (none :: (none :: (none :: (none :: (none :: (none :: (none :: (none :: (none :: (none :: (none :: (none :: (none :: (none :: (none :: (none :: (none :: (none :: (none :: (none :: (none :: (none :: (none :: (none :: (none :: (none :: (none :: (none :: (none :: (none :: (none :: (none :: (none :: (none :: (none :: (none :: (none :: (none :: (none :: (none :: (none :: (none :: (none :: (none :: (none :: (none :: (none :: (none :: (none :: (none :: (none :: (none :: (none :: (none :: (none :: (none :: (none :: (none :: []))))))))))))))))))))))))))))))))))))))))))))))))))))))))))))))))))))))))))))))))))))) (List.cons (HO.ro ((27 : Nat)) ((2 : Nat)) (p.N0) (fun j => (List.cons (SV.int (IntKind.u64) (p.F0_0 j)) (List.cons (SV.int (IntKind.u64) (p.F0_1 j)) []))) (p.O0)) (List.cons (HO.row ((27 : Nat)) ((2 : Nat)) (p.N1) (fun j => (List.cons (SV.int (IntKind.u64) (p.F1_0 j)) (List.cons (SV.int (IntKind.u64) (p.F1_1 j)) [])))) []))))) (Tr.need (e6_0_2 p s) (Tr.need (e6_0_3 p s) (Tr.need (e6_0_4 p s) (Tr.ite (e6_0_5 p s) (Tr.need (e6_0_1 p s) (Tr.leaf (Rs.out (Ex.ret) (List.cons (Option.some (SV.slc ((0:Nat)) ((2 : Nat)) ((0:Nat)) (p.n0))) (none :: (none :: (none :: (List.cons (Option.some (SV.bool (false))) (List.cons (Option.some (SV.slc ((1 : Nat)) ((2 : Nat)) ((0:Nat)) (p.n5))) (none :: (none :: (none :: (none :: (none :: (none :: (none :: (none :: (none :: (none :: (none :: (none :: (none :: (none :: (none :: (none :: (none :: (none :: (none :: (none :: (none :: (none :: (none :: (none :: (none :: (none :: (none :: (none :: (none :: (none :: (none :: (none :: (none :: (none :: (none :: (none :: (none :: (none :: (none :: (none :: (none :: (none :: (none :: (none :: (none :: (none :: (none :: (none :: (none :: (none :: (none :: (none :: (none :: (none :: (none :: (none :: (none :: (none :: (none :: (none :: (none :: (none :: (none :: (none :: (none :: (none :: (none :: (none :: (none :: (none :: (none :: (none :: (none :: (none :: (none :: (none :: (none :: (none :: (none :: []))))))))))))))))))))))))))))))))))))))))))))))))))))))))))))))))))))))))))))))))))))) (List.cons (HO.ro ((27 : Nat)) ((2 : Nat)) (p.N0) (fun j => (List.cons (SV.int (IntKind.u64) (p.F0_0 j)) (List.cons (SV.int (IntKind.u64) (p.F0_1 j)) []))) (p.O0)) (List.cons (HO.row ((27 : Nat)) ((2 : Nat)) (p.N1) (fun j => (List.cons (SV.int (IntKind.u64) (p.F1_0 j)) (List.cons (SV.int (IntKind.u64) (p.F1_1 j)) [])))) []))))) (Tr.need (e6_0_6 p s) (Tr.leaf (Rs.on (S6_0.mk ((e6_0_7 p s)))))))))))
noncomputable def r6_0 (p : P6_0) (s : S6_0) : Tr (Rs th.R S6_0) := (Tr.ite (e6_0_0 p s) (Tr.leaf (Rs.out (Ex.exit ((0:Nat))) (List.cons (Option.some (SV.slc ((0:Nat)) ((2 : Nat)) ((0:Nat)) (p.n0))) (none :: (none :: (none :: (List.cons (Option.some (SV.bool (p.b4))) (List.cons (Option.some (SV.slc ((1 : Nat)) ((2 : Nat)) ((0:Nat)) (p.n5))) (none :: (none :: (none :: (none :: (none :: (none :: (none :: (none :: (none :: (none :: (none :: (none :: (none :: (none :: (none :: (none :: (none :: (none :: (none :: (none :: (none :: (none :: (none :: (none :: (none :: (none :: (none :: (none :: (none :: (none :: (none :: (none :: (none :: (none :: (none :: (none :: (none :: (none :: (none :: (none :: (none :: (none :: (none :: (none :: (none :: (none :: (none :: (none :: (none :: (none :: (none :: (none :: (none :: (none :: (none :: (none :: (none :: (none :: (none :: (none :: (none :: (none :: (none :: (none :: (none :: (none :: (none :: (none :: (none :: (none :: (none :: (none :: (none :: (none :: (none :: (none :: (none :: (none :: (none :: []))))))))))))))))))))))))))))))))))))))))))))))))))))))))))))))))))))))))))))))))))))) (List.cons (HO.ro ((27 : Nat)) ((2 : Nat)) (p.N0) (fun j => (List.cons (SV.int (IntKind.u64) (p.F0_0 j)) (List.cons (SV.int (IntKind.u64) (p.F0_1 j)) []))) (p.O0)) (List.cons (HO.row ((27 : Nat)) ((2 : Nat)) (p.N1) (fun j => (List.cons (SV.int (IntKind.u64) (p.F1_0 j)) (List.cons (SV.int (IntKind.u64) (p.F1_1 j)) [])))) [])))) (Tr.need (e6_0_2 p s) (Tr.need (e6_0_3 p s) (Tr.need (e6_0_4 p s) (Tr.ite (e6_0_5 p s) (Tr.leaf (Rs.out (Ex.ret) (List.cons (Option.some (SV.slc ((0:Nat)) ((2 : Nat)) ((0:Nat)) (p.n0))) (none :: (none :: (none :: (List.cons (Option.some (SV.bool (false))) (List.cons (Option.some (SV.slc ((1 : Nat)) ((2 : Nat)) ((0:Nat)) (p.n5))) (none :: (none :: (none :: (none :: (none :: (none :: (none :: (none :: (none :: (none :: (none :: (none :: (none :: (none :: (none :: (none :: (none :: (none :: (none :: (none :: (none :: (none :: (none :: (none :: (none :: (none :: (none :: (none :: (none :: (none :: (none :: (none :: (none :: (none :: (none :: (none :: (none :: (none :: (none :: (none :: (none :: (none :: (none :: (none :: (none :: (none :: (none :: (none :: (none :: (none :: (none :: (none :: (none :: (none :: (none :: (none :: (none :: (none :: (none :: (none :: (none :: (none :: (none :: (none :: (none :: (none :: (none :: (none :: (none :: (none :: (none :: (none :: (none :: (none :: (none :: (none :: (none :: (none :: (none :: []))))))))))))))))))))))))))))))))))))))))))))))))))))))))))))))))))))))))))))))))))))) (List.cons (HO.ro ((27 : Nat)) ((2 : Nat)) (p.N0) (fun j => (List.cons (SV.int (IntKind.u64) (p.F0_0 j)) (List.cons (SV.int (IntKind.u64) (p.F0_1 j)) []))) (p.O0)) (List.cons (HO.row ((27 : Nat)) ((2 : Nat)) (p.N1) (fun j => (List.cons (SV.int (IntKind.u64) (p.F1_0 j)) (List.cons (SV.int (IntKind.u64) (p.F1_1 j)) [])))) [])))) (Tr.leaf (Rs.on (S6_0.mk ((e6_0_7 p s))))))))))
noncomputable def E6_0 : St th.R → Out th := evCode th Try.prog (auto th Try.prog nice24n [] 20) (autoH [] [] [] [] : Hints th) (lpAt Try.prog 6 0)
theorem B6_0 : CodeSound th Try.prog (lpAt Try.prog 6 0) E6_0 := evCode_sound (T := th) (P := Try.prog) (tbl := (auto th Try.prog nice24n [] 20)) (auto_sound (nice := nice24n) (us := []) nok24n 20) (autoH [] [] [] [] : Hints th) _ (LoopsOk_mem (fun _ => rfl) _ fun b hb L hL => by cases hL)
noncomputable def L6_0 : St th.R → Out th := loopL d6_0 ofV6_0 r6_0
theorem h1_6_0 (p : P6_0) (s : S6_0) : bld d6_0.tm (toV6_0 p s) = some (I6_0 p s) := by kernel_rfl
theorem h2_6_0 (l : List (Vl th.R)) (p : P6_0) (s : S6_0) (h : ofV6_0 l = some (p, s)) : l = toV6_0 p s := by
  unfold ofV6_0 at h
  split at h
  · cases h; rfl
  · cases h
theorem h3_6_0 (p : P6_0) (s : S6_0) : cvE d6_0 (E6_0 (I6_0 p s)) = some ((rf6_0 p s).map (Rs.map (toV6_0 p))) := by kernel_rfl
theorem h3g_6_0 (p : P6_0) (s : S6_0) : (rf6_0 p s).get = (r6_0 p s).get := by kernel_rfl
theorem h4_6_0 (p : P6_0) (s s1 : S6_0) : outH d6_0.dirt d6_0.n0 (r6_0 p s) = repH (maskH d6_0.dirt 0 d6_0.n0 (I6_0 p s1).heap) (r6_0 p s) := by kernel_rfl
theorem ls6_0 : CodeSound th Try.prog (.loop (lpAt Try.prog 6 0)) L6_0 := loopL_sound B6_0 d6_0 I6_0 toV6_0 (by kernel_rfl) h1_6_0 h2_6_0
  (fun p s => ⟨(rf6_0 p s).map (Rs.map (toV6_0 p)), h3_6_0 p s, fun h => by
    rw [Tr.map_ok]
    unfold r6_0 at h; unfold rf6_0
    simp only [Tr.ok, n_e6_0_1, n_e6_0_6, true_and, and_true, forall_const, implies_true] at h ⊢
    try exact h, by rw [Tr.map_get, h3g_6_0 p s]⟩) h4_6_0
structure P6_2 where
  n5 : Nat
  n60 : Nat
  x61 : Int
  x62 : Int
  n69 : Nat
  x70 : Int
  N0 : Nat
  O0 : Obj
  F0_0 : Nat → Int
  F0_1 : Nat → Int
  N1 : Nat
  F1_0 : Nat → Int
  F1_1 : Nat → Int
  xh2_0 : Int
  xh2_1 : Int
structure S6_2 where
  b10 : Bool
  x71 : Int
instance : Inhabited S6_2 := ⟨⟨false, 0⟩⟩
def I6_2 (p : P6_2) (s : S6_2) : St th.R := ⟨[none, none, none, none, none, some (.slc 1 2 0 p.n5), none, none, none, some (.ptr 2 0), some (.bool s.b10), none, none, none, none, none, none, none, none, none, none, none, none, none, none, none, none, none, none, none, none, none, none, none, none, none, none, none, none, none, none, none, none, none, none, none, none, none, none, none, none, none, none, none, none, none, none, none, none, none, some (.slc 0 2 0 p.n60), some (.int .i64 p.x61), some (.int .i64 p.x62), none, none, none, none, none, none, some (.slc 1 2 0 p.n69), some (.int .i64 p.x70), some (.int .i64 s.x71), none, none, none, none, none, none, none, none, none, none, none, none, none], [.ro 27 2 p.N0 (fun j => [.int .u64 (p.F0_0 j), .int .u64 (p.F0_1 j)]) p.O0, .row 27 2 p.N1 (fun j => [.int .u64 (p.F1_0 j), .int .u64 (p.F1_1 j)]), .cells 27 [.int .u64 p.xh2_0, .int .u64 p.xh2_1]], [], []⟩
def d6_2 : Lp := ⟨⟨85, [(5, .slc0 1 2), (9, .ptr 2 0), (10, .bool), (60, .slc0 0 2), (61, .int .i64), (62, .int .i64), (69, .slc0 1 2), (70, .int .i64), (71, .int .i64)], [.roc 27 [.int .u64, .int .u64], .rowc 27 [.int .u64, .int .u64], .cells 27 [.int .u64, .int .u64]]⟩, [], 3, [], [5, 10, 60, 61, 62, 77, 78, 79], []⟩
def toV6_2 (p : P6_2) (s : S6_2) : List (Vl th.R) := [.n p.n5, .b s.b10, .n p.n60, .i p.x61, .i p.x62, .n p.n69, .i p.x70, .i s.x71, .n p.N0, .o p.O0, .c p.F0_0, .c p.F0_1, .n p.N1, .c p.F1_0, .c p.F1_1, .i p.xh2_0, .i p.xh2_1]
def ofV6_2 : List (Vl th.R) → Option (P6_2 × S6_2)
  | [.n n5, .b b10, .n n60, .i x61, .i x62, .n n69, .i x70, .i x71, .n N0, .o O0, .c F0_0, .c F0_1, .n N1, .c F1_0, .c F1_1, .i xh2_0, .i xh2_1] => some (⟨n5, n60, x61, x62, n69, x70, N0, O0, F0_0, F0_1, N1, F1_0, F1_1, xh2_0, xh2_1⟩, ⟨b10, x71⟩)
  | _ => none
noncomputable def e6_2_0 (p : P6_2) (s : S6_2) : (Bool) := cnd (decide (s.x71 < p.x70)) false true
noncomputable def e6_2_1 (p : P6_2) (s : S6_2) : (Prop) := (∀ (i : Nat), scpL (0:Nat) ((fun (j : Nat) => [SV.int IntKind.u64 (p.F0_0 j), SV.int IntKind.u64 (p.F0_1 j)]) i) = true) ∧ ∀ (i : Nat), scpL (0:Nat) ((fun (j : Nat) => [SV.int IntKind.u64 (p.F1_0 j), SV.int IntKind.u64 (p.F1_1 j)]) i) = true
noncomputable def e6_2_2 (p : P6_2) (s : S6_2) : (Prop) := (0 : Int) ≤ s.x71 ∧ s.x71 < (↑p.n69 : Int)
noncomputable def e6_2_3 (p : P6_2) (s : S6_2) : (Prop) := (0:Nat) + s.x71.toNat < p.N1
noncomputable def e6_2_4 (p : P6_2) (s : S6_2) : (Prop) := ((∀ (i : Nat), scpL (0:Nat) ((fun (j : Nat) => [SV.int IntKind.u64 (p.F0_0 j), SV.int IntKind.u64 (p.F0_1 j)]) i) = true) ∧ ∀ (i : Nat), scpL (0:Nat) ((fun (j : Nat) => [SV.int IntKind.u64 (p.F1_0 j), SV.int IntKind.u64 (p.F1_1 j)]) i) = true) ∧ (∀ (i : Nat), i < p.N0 → (fun (j : Nat) => [SV.int IntKind.u64 (p.F0_0 j), SV.int IntKind.u64 (p.F0_1 j)]) i = elC (fun (j : Nat) => [SV.int IntKind.u64 (p.F0_0 j), SV.int IntKind.u64 (p.F0_1 j)]) (0:Nat) [Ck.int IntKind.u64, Ck.int IntKind.u64] i) ∧ ∀ (i : Nat), i < p.N1 → (fun (j : Nat) => [SV.int IntKind.u64 (p.F1_0 j), SV.int IntKind.u64 (p.F1_1 j)]) i = elC (fun (j : Nat) => [SV.int IntKind.u64 (p.F1_0 j), SV.int IntKind.u64 (p.F1_1 j)]) (0:Nat) [Ck.int IntKind.u64, Ck.int IntKind.u64] i
noncomputable def e6_2_5 (p : P6_2) (s : S6_2) : (Bool) := cnd s.b10 true (f15_0 p.xh2_0 p.xh2_1 (p.F1_0 ((0:Nat) + s.x71.toNat)) (p.F1_1 ((0:Nat) + s.x71.toNat)))
noncomputable def e6_2_6 (p : P6_2) (s : S6_2) : (Int) := IntKind.i64.wrap (s.x71 + (1 : Int))
theorem n_e6_2_1 (p : P6_2) (s : S6_2) : e6_2_1 p s := by
  unfold e6_2_1
  first
    | (intros; rfl)
    | (intro i; rfl)
    | (intro i _; rfl)
    | (intro _ i; rfl)
    | (intro _ i _; rfl)
    | (refine ⟨?_, ?_⟩ <;> intro i <;> rfl)
    | (refine ⟨?_, ?_, ?_⟩ <;> intro i <;> rfl)
    | (refine ⟨?_, ?_⟩ <;> intro i _ <;> rfl)
    | (repeat' apply And.intro) <;> first | (intro i; rfl) | (intro i _; rfl) | (intro i h; exact absurd h (Nat.not_lt_zero i)) | (intro i; exact scpL_rowSet (by rfl) (by rfl)) | (intro i; exact scpL_rowEl (by kernel_rfl) _)
    | (intros; (repeat' apply And.intro) <;> intros <;> first | rfl | (exact absurd (by assumption) (Nat.not_lt_zero _)))
    | omega
    | decide
theorem n_e6_2_4 (p : P6_2) (s : S6_2) : e6_2_4 p s := by
  unfold e6_2_4
  first
    | (intros; rfl)
    | (intro i; rfl)
    | (intro i _; rfl)
    | (intro _ i; rfl)
    | (intro _ i _; rfl)
    | (refine ⟨?_, ?_⟩ <;> intro i <;> rfl)
    | (refine ⟨?_, ?_, ?_⟩ <;> intro i <;> rfl)
    | (refine ⟨?_, ?_⟩ <;> intro i _ <;> rfl)
    | (repeat' apply And.intro) <;> first | (intro i; rfl) | (intro i _; rfl) | (intro i h; exact absurd h (Nat.not_lt_zero i)) | (intro i; exact scpL_rowSet (by rfl) (by rfl)) | (intro i; exact scpL_rowEl (by kernel_rfl) _)
    | (intros; (repeat' apply And.intro) <;> intros <;> first | rfl | (exact absurd (by assumption) (Nat.not_lt_zero _)))
    | omega
    | decide
noncomputable def rf6_2 (p : P6_2) (s : S6_2) : Tr (Rs th.R S6_2) := (Tr.ite (e6_2_0 p s) (Tr.need (e6_2_1 p s) (Tr.leaf (Rs.out (Ex.exit ((4 : Nat))) (none :: (none :: (none :: (none :: (none :: (List.cons (Option.some (SV.slc ((1 : Nat)) ((2 : Nat)) ((0:Nat)) (p.n5))) (none :: (none :: (none :: (none :: (List.cons (Option.some (SV.bool (s.b10))) (none :: (none :: (none :: (none :: (none :: (none :: (none :: (none :: (none :: (none :: (none :: (none :: (none :: (none :: (none :: (none :: (none :: (none :: (none :: (none :: (none :: (none :: (none :: (none :: (none :: (none :: (none :: (none :: (none :: (none :: (none :: (none :: (none :: (none :: (none :: (none :: (none :: (none :: (none :: (none :: (none :: (none :: (none :: (none :: (none :: (none :: (none :: (none :: (none :: (List.cons (Option.some (SV.slc ((0:Nat)) ((2 : Nat)) ((0:Nat)) (p.n60))) (List.cons (Option.some (SV.int (IntKind.i64) (p.x61))) (List.cons (Option.some (SV.int (IntKind.i64) (p.x62))) (none :: (none :: (none :: (none :: (none :: (none :: (none :: (none :: (none :: (none :: (none :: (none :: (none :: (none :: (none :: (none :: (none :: (none :: (none :: (none :: (none :: (none :: []))))))))))))))))))))))))))))))))))))))))))))))))))))))))))))))))))))))))))))))))))))) (List.cons (HO.ro ((27 : Nat)) ((2 : Nat)) (p.N0) (fun j => (List.cons (SV.int (IntKind.u64) (p.F0_0 j)) (List.cons (SV.int (IntKind.u64) (p.F0_1 j)) []))) (p.O0)) (List.cons (HO.row ((27 : Nat)) ((2 : Nat)) (p.N1) (fun j => (List.cons (SV.int (IntKind.u64) (p.F1_0 j)) (List.cons (SV.int (IntKind.u64) (p.F1_1 j)) [])))) (List.cons (HO.cells ((27 : Nat)) (List.cons (SV.int (IntKind.u64) (p.xh2_0)) (List.cons (SV.int (IntKind.u64) (p.xh2_1)) []))) [])))))) (Tr.need (e6_2_2 p s) (Tr.need (e6_2_3 p s) (Tr.need (e6_2_4 p s) (Tr.leaf (Rs.on (S6_2.mk ((e6_2_5 p s)) ((e6_2_6 p s)))))))))
noncomputable def r6_2 (p : P6_2) (s : S6_2) : Tr (Rs th.R S6_2) := (Tr.ite (e6_2_0 p s) (Tr.leaf (Rs.out (Ex.exit ((4 : Nat))) (none :: (none :: (none :: (none :: (none :: (List.cons (Option.some (SV.slc ((1 : Nat)) ((2 : Nat)) ((0:Nat)) (p.n5))) (none :: (none :: (none :: (none :: (List.cons (Option.some (SV.bool (s.b10))) (none :: (none :: (none :: (none :: (none :: (none :: (none :: (none :: (none :: (none :: (none :: (none :: (none :: (none :: (none :: (none :: (none :: (none :: (none :: (none :: (none :: (none :: (none :: (none :: (none :: (none :: (none :: (none :: (none :: (none :: (none :: (none :: (none :: (none :: (none :: (none :: (none :: (none :: (none :: (none :: (none :: (none :: (none :: (none :: (none :: (none :: (none :: (none :: (none :: (List.cons (Option.some (SV.slc ((0:Nat)) ((2 : Nat)) ((0:Nat)) (p.n60))) (List.cons (Option.some (SV.int (IntKind.i64) (p.x61))) (List.cons (Option.some (SV.int (IntKind.i64) (p.x62))) (none :: (none :: (none :: (none :: (none :: (none :: (none :: (none :: (none :: (none :: (none :: (none :: (none :: (none :: (none :: (none :: (none :: (none :: (none :: (none :: (none :: (none :: []))))))))))))))))))))))))))))))))))))))))))))))))))))))))))))))))))))))))))))))))))))) (List.cons (HO.ro ((27 : Nat)) ((2 : Nat)) (p.N0) (fun j => (List.cons (SV.int (IntKind.u64) (p.F0_0 j)) (List.cons (SV.int (IntKind.u64) (p.F0_1 j)) []))) (p.O0)) (List.cons (HO.row ((27 : Nat)) ((2 : Nat)) (p.N1) (fun j => (List.cons (SV.int (IntKind.u64) (p.F1_0 j)) (List.cons (SV.int (IntKind.u64) (p.F1_1 j)) [])))) (List.cons (HO.cells ((27 : Nat)) (List.cons (SV.int (IntKind.u64) (p.xh2_0)) (List.cons (SV.int (IntKind.u64) (p.xh2_1)) []))) []))))) (Tr.need (e6_2_2 p s) (Tr.need (e6_2_3 p s) (Tr.leaf (Rs.on (S6_2.mk ((e6_2_5 p s)) ((e6_2_6 p s))))))))
noncomputable def E6_2 : St th.R → Out th := evCode th Try.prog (auto th Try.prog nice24n [] 20) (autoH [] [] [] [] : Hints th) (lpAt Try.prog 6 2)
theorem B6_2 : CodeSound th Try.prog (lpAt Try.prog 6 2) E6_2 := evCode_sound (T := th) (P := Try.prog) (tbl := (auto th Try.prog nice24n [] 20)) (auto_sound (nice := nice24n) (us := []) nok24n 20) (autoH [] [] [] [] : Hints th) _ (LoopsOk_mem (fun _ => rfl) _ fun b hb L hL => by cases hL)
noncomputable def L6_2 : St th.R → Out th := loopL d6_2 ofV6_2 r6_2
theorem h1_6_2 (p : P6_2) (s : S6_2) : bld d6_2.tm (toV6_2 p s) = some (I6_2 p s) := by kernel_rfl
theorem h2_6_2 (l : List (Vl th.R)) (p : P6_2) (s : S6_2) (h : ofV6_2 l = some (p, s)) : l = toV6_2 p s := by
  unfold ofV6_2 at h
  split at h
  · cases h; rfl
  · cases h
theorem h3_6_2 (p : P6_2) (s : S6_2) : cvE d6_2 (E6_2 (I6_2 p s)) = some ((rf6_2 p s).map (Rs.map (toV6_2 p))) := by kernel_rfl
theorem h3g_6_2 (p : P6_2) (s : S6_2) : (rf6_2 p s).get = (r6_2 p s).get := by kernel_rfl
theorem h4_6_2 (p : P6_2) (s s1 : S6_2) : outH d6_2.dirt d6_2.n0 (r6_2 p s) = repH (maskH d6_2.dirt 0 d6_2.n0 (I6_2 p s1).heap) (r6_2 p s) := by kernel_rfl
theorem ls6_2 : CodeSound th Try.prog (.loop (lpAt Try.prog 6 2)) L6_2 := loopL_sound B6_2 d6_2 I6_2 toV6_2 (by kernel_rfl) h1_6_2 h2_6_2
  (fun p s => ⟨(rf6_2 p s).map (Rs.map (toV6_2 p)), h3_6_2 p s, fun h => by
    rw [Tr.map_ok]
    unfold r6_2 at h; unfold rf6_2
    simp only [Tr.ok, n_e6_2_1, n_e6_2_4, true_and, and_true, forall_const, implies_true] at h ⊢
    try exact h, by rw [Tr.map_get, h3g_6_2 p s]⟩) h4_6_2
structure P6_1 where
  n5 : Nat
  n60 : Nat
  x61 : Int
  N0 : Nat
  O0 : Obj
  F0_0 : Nat → Int
  F0_1 : Nat → Int
  N1 : Nat
  F1_0 : Nat → Int
  F1_1 : Nat → Int
structure S6_1 where
  x62 : Int
instance : Inhabited S6_1 := ⟨⟨0⟩⟩
def I6_1 (p : P6_1) (s : S6_1) : St th.R := ⟨[none, none, none, none, none, some (.slc 1 2 0 p.n5), none, none, none, none, none, none, none, none, none, none, none, none, none, none, none, none, none, none, none, none, none, none, none, none, none, none, none, none, none, none, none, none, none, none, none, none, none, none, none, none, none, none, none, none, none, none, none, none, none, none, none, none, none, none, some (.slc 0 2 0 p.n60), some (.int .i64 p.x61), some (.int .i64 s.x62), none, none, none, none, none, none, none, none, none, none, none, none, none, none, none, none, none, none, none, none, none, none], [.ro 27 2 p.N0 (fun j => [.int .u64 (p.F0_0 j), .int .u64 (p.F0_1 j)]) p.O0, .row 27 2 p.N1 (fun j => [.int .u64 (p.F1_0 j), .int .u64 (p.F1_1 j)])], [], []⟩
def d6_1 : Lp := ⟨⟨85, [(5, .slc0 1 2), (60, .slc0 0 2), (61, .int .i64), (62, .int .i64)], [.roc 27 [.int .u64, .int .u64], .rowc 27 [.int .u64, .int .u64]]⟩, [], 2, [], [4], []⟩
def toV6_1 (p : P6_1) (s : S6_1) : List (Vl th.R) := [.n p.n5, .n p.n60, .i p.x61, .i s.x62, .n p.N0, .o p.O0, .c p.F0_0, .c p.F0_1, .n p.N1, .c p.F1_0, .c p.F1_1]
def ofV6_1 : List (Vl th.R) → Option (P6_1 × S6_1)
  | [.n n5, .n n60, .i x61, .i x62, .n N0, .o O0, .c F0_0, .c F0_1, .n N1, .c F1_0, .c F1_1] => some (⟨n5, n60, x61, N0, O0, F0_0, F0_1, N1, F1_0, F1_1⟩, ⟨x62⟩)
  | _ => none
noncomputable def e6_1_0 (p : P6_1) (s : S6_1) : (Bool) := cnd (decide (s.x62 < p.x61)) false true
noncomputable def e6_1_1 (p : P6_1) (s : S6_1) : (Prop) := (∀ (i : Nat), scpL (0:Nat) ((fun (j : Nat) => [SV.int IntKind.u64 (p.F0_0 j), SV.int IntKind.u64 (p.F0_1 j)]) i) = true) ∧ ∀ (i : Nat), scpL (0:Nat) ((fun (j : Nat) => [SV.int IntKind.u64 (p.F1_0 j), SV.int IntKind.u64 (p.F1_1 j)]) i) = true
noncomputable def e6_1_2 (p : P6_1) (s : S6_1) : (Prop) := (0 : Int) ≤ s.x62 ∧ s.x62 < (↑p.n60 : Int)
noncomputable def e6_1_3 (p : P6_1) (s : S6_1) : (Prop) := (0:Nat) + s.x62.toNat < p.N0
noncomputable def e6_1_4 (p : P6_1) (s : S6_1) : (Prop) := (∀ (i : Nat), i < p.N0 → (fun (j : Nat) => [SV.int IntKind.u64 (p.F0_0 j), SV.int IntKind.u64 (p.F0_1 j)]) i = elC (fun (j : Nat) => [SV.int IntKind.u64 (p.F0_0 j), SV.int IntKind.u64 (p.F0_1 j)]) (0:Nat) [Ck.int IntKind.u64, Ck.int IntKind.u64] i) ∧ ∀ (i : Nat), i < p.N1 → (fun (j : Nat) => [SV.int IntKind.u64 (p.F1_0 j), SV.int IntKind.u64 (p.F1_1 j)]) i = elC (fun (j : Nat) => [SV.int IntKind.u64 (p.F1_0 j), SV.int IntKind.u64 (p.F1_1 j)]) (0:Nat) [Ck.int IntKind.u64, Ck.int IntKind.u64] i
noncomputable def e6_1_5 (p : P6_1) (s : S6_1) : (Prop) := LT (r6_2 (P6_2.mk p.n5 p.n60 p.x61 s.x62 p.n5 (↑p.n5 : Int) p.N0 p.O0 p.F0_0 p.F0_1 p.N1 p.F1_0 p.F1_1 (p.F0_0 ((0:Nat) + s.x62.toNat)) (p.F0_1 ((0:Nat) + s.x62.toNat)))) (S6_2.mk (!f11_0 (p.F0_0 ((0:Nat) + s.x62.toNat)) (p.F0_1 ((0:Nat) + s.x62.toNat))) (0 : Int))
noncomputable def e6_1_6 (p : P6_1) (s : S6_1) : (Bool) := !(lastS (r6_2 (P6_2.mk p.n5 p.n60 p.x61 s.x62 p.n5 (↑p.n5 : Int) p.N0 p.O0 p.F0_0 p.F0_1 p.N1 p.F1_0 p.F1_1 (p.F0_0 ((0:Nat) + s.x62.toNat)) (p.F0_1 ((0:Nat) + s.x62.toNat)))) (S6_2.mk (!f11_0 (p.F0_0 ((0:Nat) + s.x62.toNat)) (p.F0_1 ((0:Nat) + s.x62.toNat))) (0 : Int))).b10
noncomputable def e6_1_7 (p : P6_1) (s : S6_1) : (Prop) := ((∀ (i : Nat), scpL (0:Nat) ((fun (j : Nat) => [SV.int IntKind.u64 (p.F0_0 j), SV.int IntKind.u64 (p.F0_1 j)]) i) = true) ∧ ∀ (i : Nat), scpL (0:Nat) ((fun (j : Nat) => [SV.int IntKind.u64 (p.F1_0 j), SV.int IntKind.u64 (p.F1_1 j)]) i) = true) ∧ (∀ (i : Nat), i < p.N0 → (fun (j : Nat) => [SV.int IntKind.u64 (p.F0_0 j), SV.int IntKind.u64 (p.F0_1 j)]) i = elC (fun (j : Nat) => [SV.int IntKind.u64 (p.F0_0 j), SV.int IntKind.u64 (p.F0_1 j)]) (0:Nat) [Ck.int IntKind.u64, Ck.int IntKind.u64] i) ∧ ∀ (i : Nat), i < p.N1 → (fun (j : Nat) => [SV.int IntKind.u64 (p.F1_0 j), SV.int IntKind.u64 (p.F1_1 j)]) i = elC (fun (j : Nat) => [SV.int IntKind.u64 (p.F1_0 j), SV.int IntKind.u64 (p.F1_1 j)]) (0:Nat) [Ck.int IntKind.u64, Ck.int IntKind.u64] i
noncomputable def e6_1_8 (p : P6_1) (s : S6_1) : (Int) := IntKind.i64.wrap (s.x62 + (1 : Int))
theorem n_e6_1_1 (p : P6_1) (s : S6_1) : e6_1_1 p s := by
  unfold e6_1_1
  first
    | (intros; rfl)
    | (intro i; rfl)
    | (intro i _; rfl)
    | (intro _ i; rfl)
    | (intro _ i _; rfl)
    | (refine ⟨?_, ?_⟩ <;> intro i <;> rfl)
    | (refine ⟨?_, ?_, ?_⟩ <;> intro i <;> rfl)
    | (refine ⟨?_, ?_⟩ <;> intro i _ <;> rfl)
    | (repeat' apply And.intro) <;> first | (intro i; rfl) | (intro i _; rfl) | (intro i h; exact absurd h (Nat.not_lt_zero i)) | (intro i; exact scpL_rowSet (by rfl) (by rfl)) | (intro i; exact scpL_rowEl (by kernel_rfl) _)
    | (intros; (repeat' apply And.intro) <;> intros <;> first | rfl | (exact absurd (by assumption) (Nat.not_lt_zero _)))
    | omega
    | decide
theorem n_e6_1_4 (p : P6_1) (s : S6_1) : e6_1_4 p s := by
  unfold e6_1_4
  first
    | (intros; rfl)
    | (intro i; rfl)
    | (intro i _; rfl)
    | (intro _ i; rfl)
    | (intro _ i _; rfl)
    | (refine ⟨?_, ?_⟩ <;> intro i <;> rfl)
    | (refine ⟨?_, ?_, ?_⟩ <;> intro i <;> rfl)
    | (refine ⟨?_, ?_⟩ <;> intro i _ <;> rfl)
    | (repeat' apply And.intro) <;> first | (intro i; rfl) | (intro i _; rfl) | (intro i h; exact absurd h (Nat.not_lt_zero i)) | (intro i; exact scpL_rowSet (by rfl) (by rfl)) | (intro i; exact scpL_rowEl (by kernel_rfl) _)
    | (intros; (repeat' apply And.intro) <;> intros <;> first | rfl | (exact absurd (by assumption) (Nat.not_lt_zero _)))
    | omega
    | decide
theorem n_e6_1_7 (p : P6_1) (s : S6_1) : e6_1_7 p s := by
  unfold e6_1_7
  first
    | (intros; rfl)
    | (intro i; rfl)
    | (intro i _; rfl)
    | (intro _ i; rfl)
    | (intro _ i _; rfl)
    | (refine ⟨?_, ?_⟩ <;> intro i <;> rfl)
    | (refine ⟨?_, ?_, ?_⟩ <;> intro i <;> rfl)
    | (refine ⟨?_, ?_⟩ <;> intro i _ <;> rfl)
    | (repeat' apply And.intro) <;> first | (intro i; rfl) | (intro i _; rfl) | (intro i h; exact absurd h (Nat.not_lt_zero i)) | (intro i; exact scpL_rowSet (by rfl) (by rfl)) | (intro i; exact scpL_rowEl (by kernel_rfl) _)
    | (intros; (repeat' apply And.intro) <;> intros <;> first | rfl | (exact absurd (by assumption) (Nat.not_lt_zero _)))
    | omega
    | decide
noncomputable def rf6_1 (p : P6_1) (s : S6_1) : Tr (Rs th.R S6_1) := (Tr.ite (e6_1_0 p s) (Tr.need (e6_1_1 p s) (Tr.leaf (Rs.out (Ex.exit ((2 : Nat))) (none :: (none :: (none :: (none :: (none :: (none :: (none :: (none :: (none :: (none :: (none :: (none :: (none :: (none :: (none :: (none :: (none :: (none :: (none :: (none :: (none :: (none :: (none :: (none :: (none :: (none :: (none :: (none :: (none :: (none :: (none :: (none :: (none :: (none :: (none :: (none :: (none :: (none :: (none :: (none :: (none :: (none :: (none :: (none :: (none :: (none :: (none :: (none :: (none :: (none :: (none :: (none :: (none :: (none :: (none :: (none :: (none :: (none :: (none :: (none :: (none :: (none :: (none :: (none :: (none :: (none :: (none :: (none :: (none :: (none :: (none :: (none :: (none :: (none :: (none :: (none :: (none :: (none :: (none :: (none :: (none :: (none :: (none :: (none :: (none :: []))))))))))))))))))))))))))))))))))))))))))))))))))))))))))))))))))))))))))))))))))))) (List.cons (HO.ro ((27 : Nat)) ((2 : Nat)) (p.N0) (fun j => (List.cons (SV.int (IntKind.u64) (p.F0_0 j)) (List.cons (SV.int (IntKind.u64) (p.F0_1 j)) []))) (p.O0)) (List.cons (HO.row ((27 : Nat)) ((2 : Nat)) (p.N1) (fun j => (List.cons (SV.int (IntKind.u64) (p.F1_0 j)) (List.cons (SV.int (IntKind.u64) (p.F1_1 j)) [])))) []))))) (Tr.need (e6_1_2 p s) (Tr.need (e6_1_3 p s) (Tr.need (e6_1_4 p s) (Tr.need (e6_1_5 p s) (Tr.ite (e6_1_6 p s) (Tr.need (e6_1_1 p s) (Tr.leaf (Rs.out (Ex.ret) (none :: (none :: (none :: (none :: (List.cons (Option.some (SV.bool (false))) (none :: (none :: (none :: (none :: (none :: (none :: (none :: (none :: (none :: (none :: (none :: (none :: (none :: (none :: (none :: (none :: (none :: (none :: (none :: (none :: (none :: (none :: (none :: (none :: (none :: (none :: (none :: (none :: (none :: (none :: (none :: (none :: (none :: (none :: (none :: (none :: (none :: (none :: (none :: (none :: (none :: (none :: (none :: (none :: (none :: (none :: (none :: (none :: (none :: (none :: (none :: (none :: (none :: (none :: (none :: (none :: (none :: (none :: (none :: (none :: (none :: (none :: (none :: (none :: (none :: (none :: (none :: (none :: (none :: (none :: (none :: (none :: (none :: (none :: (none :: (none :: (none :: (none :: (none :: (none :: []))))))))))))))))))))))))))))))))))))))))))))))))))))))))))))))))))))))))))))))))))))) (List.cons (HO.ro ((27 : Nat)) ((2 : Nat)) (p.N0) (fun j => (List.cons (SV.int (IntKind.u64) (p.F0_0 j)) (List.cons (SV.int (IntKind.u64) (p.F0_1 j)) []))) (p.O0)) (List.cons (HO.row ((27 : Nat)) ((2 : Nat)) (p.N1) (fun j => (List.cons (SV.int (IntKind.u64) (p.F1_0 j)) (List.cons (SV.int (IntKind.u64) (p.F1_1 j)) [])))) []))))) (Tr.need (e6_1_7 p s) (Tr.leaf (Rs.on (S6_1.mk ((e6_1_8 p s))))))))))))
noncomputable def r6_1 (p : P6_1) (s : S6_1) : Tr (Rs th.R S6_1) := (Tr.ite (e6_1_0 p s) (Tr.leaf (Rs.out (Ex.exit ((2 : Nat))) (none :: (none :: (none :: (none :: (none :: (none :: (none :: (none :: (none :: (none :: (none :: (none :: (none :: (none :: (none :: (none :: (none :: (none :: (none :: (none :: (none :: (none :: (none :: (none :: (none :: (none :: (none :: (none :: (none :: (none :: (none :: (none :: (none :: (none :: (none :: (none :: (none :: (none :: (none :: (none :: (none :: (none :: (none :: (none :: (none :: (none :: (none :: (none :: (none :: (none :: (none :: (none :: (none :: (none :: (none :: (none :: (none :: (none :: (none :: (none :: (none :: (none :: (none :: (none :: (none :: (none :: (none :: (none :: (none :: (none :: (none :: (none :: (none :: (none :: (none :: (none :: (none :: (none :: (none :: (none :: (none :: (none :: (none :: (none :: (none :: []))))))))))))))))))))))))))))))))))))))))))))))))))))))))))))))))))))))))))))))))))))) (List.cons (HO.ro ((27 : Nat)) ((2 : Nat)) (p.N0) (fun j => (List.cons (SV.int (IntKind.u64) (p.F0_0 j)) (List.cons (SV.int (IntKind.u64) (p.F0_1 j)) []))) (p.O0)) (List.cons (HO.row ((27 : Nat)) ((2 : Nat)) (p.N1) (fun j => (List.cons (SV.int (IntKind.u64) (p.F1_0 j)) (List.cons (SV.int (IntKind.u64) (p.F1_1 j)) [])))) [])))) (Tr.need (e6_1_2 p s) (Tr.need (e6_1_3 p s) (Tr.need (e6_1_5 p s) (Tr.ite (e6_1_6 p s) (Tr.leaf (Rs.out (Ex.ret) (none :: (none :: (none :: (none :: (List.cons (Option.some (SV.bool (false))) (none :: (none :: (none :: (none :: (none :: (none :: (none :: (none :: (none :: (none :: (none :: (none :: (none :: (none :: (none :: (none :: (none :: (none :: (none :: (none :: (none :: (none :: (none :: (none :: (none :: (none :: (none :: (none :: (none :: (none :: (none :: (none :: (none :: (none :: (none :: (none :: (none :: (none :: (none :: (none :: (none :: (none :: (none :: (none :: (none :: (none :: (none :: (none :: (none :: (none :: (none :: (none :: (none :: (none :: (none :: (none :: (none :: (none :: (none :: (none :: (none :: (none :: (none :: (none :: (none :: (none :: (none :: (none :: (none :: (none :: (none :: (none :: (none :: (none :: (none :: (none :: (none :: (none :: (none :: (none :: []))))))))))))))))))))))))))))))))))))))))))))))))))))))))))))))))))))))))))))))))))))) (List.cons (HO.ro ((27 : Nat)) ((2 : Nat)) (p.N0) (fun j => (List.cons (SV.int (IntKind.u64) (p.F0_0 j)) (List.cons (SV.int (IntKind.u64) (p.F0_1 j)) []))) (p.O0)) (List.cons (HO.row ((27 : Nat)) ((2 : Nat)) (p.N1) (fun j => (List.cons (SV.int (IntKind.u64) (p.F1_0 j)) (List.cons (SV.int (IntKind.u64) (p.F1_1 j)) [])))) [])))) (Tr.leaf (Rs.on (S6_1.mk ((e6_1_8 p s))))))))))
noncomputable def E6_1 : St th.R → Out th := evCode th Try.prog (auto th Try.prog nice24n [] 20) (autoH [(19, L6_2)] [] [] [] : Hints th) (lpAt Try.prog 6 1)
theorem ok6_1 : LoopsOk th Try.prog (autoH [(19, L6_2)] [] [] [] : Hints th) (lpAt Try.prog 6 1) := autoH_ok (bs := [lpAt Try.prog 6 2]) (by kernel_rfl) fun b hb L hL => by
  simp only [List.mem_cons, List.not_mem_nil, or_false] at hb
  rcases hb with rfl
  · have e : lookL [(19, L6_2)] (firstReg (lpAt Try.prog 6 2)) = some L6_2 := by kernel_rfl
    rw [e] at hL; cases hL
    exact ls6_2
theorem B6_1 : CodeSound th Try.prog (lpAt Try.prog 6 1) E6_1 := evCode_sound (T := th) (P := Try.prog) (tbl := (auto th Try.prog nice24n [] 20)) (auto_sound (nice := nice24n) (us := []) nok24n 20) (autoH [(19, L6_2)] [] [] [] : Hints th) _ ok6_1
noncomputable def L6_1 : St th.R → Out th := loopL d6_1 ofV6_1 r6_1
theorem h1_6_1 (p : P6_1) (s : S6_1) : bld d6_1.tm (toV6_1 p s) = some (I6_1 p s) := by kernel_rfl
theorem h2_6_1 (l : List (Vl th.R)) (p : P6_1) (s : S6_1) (h : ofV6_1 l = some (p, s)) : l = toV6_1 p s := by
  unfold ofV6_1 at h
  split at h
  · cases h; rfl
  · cases h
theorem h3_6_1 (p : P6_1) (s : S6_1) : cvE d6_1 (E6_1 (I6_1 p s)) = some ((rf6_1 p s).map (Rs.map (toV6_1 p))) := by kernel_rfl
theorem h3g_6_1 (p : P6_1) (s : S6_1) : (rf6_1 p s).get = (r6_1 p s).get := by kernel_rfl
theorem h4_6_1 (p : P6_1) (s s1 : S6_1) : outH d6_1.dirt d6_1.n0 (r6_1 p s) = repH (maskH d6_1.dirt 0 d6_1.n0 (I6_1 p s1).heap) (r6_1 p s) := by kernel_rfl
theorem ls6_1 : CodeSound th Try.prog (.loop (lpAt Try.prog 6 1)) L6_1 := loopL_sound B6_1 d6_1 I6_1 toV6_1 (by kernel_rfl) h1_6_1 h2_6_1
  (fun p s => ⟨(rf6_1 p s).map (Rs.map (toV6_1 p)), h3_6_1 p s, fun h => by
    rw [Tr.map_ok]
    unfold r6_1 at h; unfold rf6_1
    simp only [Tr.ok, n_e6_1_1, n_e6_1_4, n_e6_1_7, true_and, and_true, forall_const, implies_true] at h ⊢
    try exact h, by rw [Tr.map_get, h3g_6_1 p s]⟩) h4_6_1
theorem ok6 : LoopsOk th Try.prog (autoH [(9, L6_0), (15, L6_1)] [] [] [] : Hints th) (bodyOf Try.prog 6) := autoH_ok (bs := [lpAt Try.prog 6 0, lpAt Try.prog 6 1, lpAt Try.prog 6 2]) (by kernel_rfl) fun b hb L hL => by
  simp only [List.mem_cons, List.not_mem_nil, or_false] at hb
  rcases hb with rfl | rfl | rfl
  · have e : lookL [(9, L6_0), (15, L6_1)] (firstReg (lpAt Try.prog 6 0)) = some L6_0 := by kernel_rfl
    rw [e] at hL; cases hL
    exact ls6_0
  · have e : lookL [(9, L6_0), (15, L6_1)] (firstReg (lpAt Try.prog 6 1)) = some L6_1 := by kernel_rfl
    rw [e] at hL; cases hL
    exact ls6_1
  · have e : lookL [(9, L6_0), (15, L6_1)] (firstReg (lpAt Try.prog 6 2)) = (none : Option (St th.R → Out th)) := by kernel_rfl
    rw [e] at hL; cases hL
noncomputable def f6_0 (v : V6) : (Prop) := false = false → decide ((↑v.L : Int) > (60 : Int)) = false → ∀ (i : Nat), scpL (0:Nat) ((fun (j : Nat) => [SV.int IntKind.u64 (v.F j), SV.int IntKind.u64 (v.G j)]) i) = true
noncomputable def f6_1 (v : V6) : (Prop) := false = false → decide ((↑v.L : Int) > (60 : Int)) = false → ∀ (i : Nat), i < v.M → (fun (j : Nat) => [SV.int IntKind.u64 (v.F j), SV.int IntKind.u64 (v.G j)]) i = elC (fun (j : Nat) => [SV.int IntKind.u64 (v.F j), SV.int IntKind.u64 (v.G j)]) (0:Nat) [Ck.int IntKind.u64, Ck.int IntKind.u64] i
noncomputable def f6_2 (v : V6) : (Prop) := false = false → decide ((↑v.L : Int) > (60 : Int)) = false → pre24 (V24.mk v.L v.M v.ob v.F v.G)
noncomputable def f6_3 (v : V6) : (Prop) := false = false → decide ((↑v.L : Int) > (60 : Int)) = false → (∀ (i : Nat), scpL (0:Nat) ((fun (j : Nat) => [SV.int IntKind.u64 (v.F j), SV.int IntKind.u64 (v.G j)]) i) = true) ∧ ∀ (i : Nat), scpL (0:Nat) ((fun (j : Nat) => [SV.int IntKind.u64 (So.gt (UN (sp v.F v.G) v.L) j).fst, SV.int IntKind.u64 (So.gt (UN (sp v.F v.G) v.L) j).snd]) i) = true
noncomputable def f6_4 (v : V6) : (Prop) := false = false → decide ((↑v.L : Int) > (60 : Int)) = false → ∀ (i : Nat), scpL (0:Nat) ((fun (j : Nat) => [SV.int IntKind.u64 (So.gt (UN (sp v.F v.G) v.L) j).fst, SV.int IntKind.u64 (So.gt (UN (sp v.F v.G) v.L) j).snd]) i) = true
noncomputable def f6_5 (v : V6) : (Prop) := false = false → decide ((↑v.L : Int) > (60 : Int)) = false → ∀ (i : Nat), i < (UN (sp v.F v.G) v.L).length → (fun (j : Nat) => [SV.int IntKind.u64 (So.gt (UN (sp v.F v.G) v.L) j).fst, SV.int IntKind.u64 (So.gt (UN (sp v.F v.G) v.L) j).snd]) i = elC (fun (j : Nat) => [SV.int IntKind.u64 (So.gt (UN (sp v.F v.G) v.L) j).fst, SV.int IntKind.u64 (So.gt (UN (sp v.F v.G) v.L) j).snd]) (0:Nat) [Ck.int IntKind.u64, Ck.int IntKind.u64] i
noncomputable def f6_6 (v : V6) : (Prop) := false = false → decide ((↑v.L : Int) > (60 : Int)) = false → pre20 (inj20 (V20w.mk (UN (sp v.F v.G) v.L).length (UN (sp v.F v.G) v.L).length (fun (j : Nat) => (So.gt (UN (sp v.F v.G) v.L) j).fst) fun (j : Nat) => (So.gt (UN (sp v.F v.G) v.L) j).snd) (Go.Obj.cells #[] (0 : Go.TypeId)))
noncomputable def f6_7 (v : V6) : (Prop) := false = false → decide ((↑v.L : Int) > (60 : Int)) = false → cnd (!!decide (So.Ap (So.seg (sp (inj20 (V20w.mk (UN (sp v.F v.G) v.L).length (UN (sp v.F v.G) v.L).length (fun (j : Nat) => (So.gt (UN (sp v.F v.G) v.L) j).fst) fun (j : Nat) => (So.gt (UN (sp v.F v.G) v.L) j).snd) (Go.Obj.cells #[] (0 : Go.TypeId))).F (inj20 (V20w.mk (UN (sp v.F v.G) v.L).length (UN (sp v.F v.G) v.L).length (fun (j : Nat) => (So.gt (UN (sp v.F v.G) v.L) j).fst) fun (j : Nat) => (So.gt (UN (sp v.F v.G) v.L) j).snd) (Go.Obj.cells #[] (0 : Go.TypeId))).G) (0:Nat) (inj20 (V20w.mk (UN (sp v.F v.G) v.L).length (UN (sp v.F v.G) v.L).length (fun (j : Nat) => (So.gt (UN (sp v.F v.G) v.L) j).fst) fun (j : Nat) => (So.gt (UN (sp v.F v.G) v.L) j).snd) (Go.Obj.cells #[] (0 : Go.TypeId))).L))) true false = true → (∀ (i : Nat), scpL (0:Nat) ((fun (j : Nat) => [SV.int IntKind.u64 (So.gt (UN (sp v.F v.G) v.L) j).fst, SV.int IntKind.u64 (So.gt (UN (sp v.F v.G) v.L) j).snd]) i) = true) ∧ (∀ (i : Nat), i < (UN (sp v.F v.G) v.L).length → (fun (j : Nat) => [SV.int IntKind.u64 (So.gt (UN (sp v.F v.G) v.L) j).fst, SV.int IntKind.u64 (So.gt (UN (sp v.F v.G) v.L) j).snd]) i = elC (fun (j : Nat) => [SV.int IntKind.u64 (So.gt (UN (sp v.F v.G) v.L) j).fst, SV.int IntKind.u64 (So.gt (UN (sp v.F v.G) v.L) j).snd]) (0:Nat) [Ck.int IntKind.u64, Ck.int IntKind.u64] i) ∧ pre25 (inj25 (V25w.mk (UN (sp v.F v.G) v.L).length v.at_ (UN (sp v.F v.G) v.L).length (fun (j : Nat) => (So.gt (UN (sp v.F v.G) v.L) j).fst) fun (j : Nat) => (So.gt (UN (sp v.F v.G) v.L) j).snd) (Go.Obj.cells #[] (0 : Go.TypeId))) ∧ ∀ (i : Nat), scpL (0:Nat) ((fun (j : Nat) => [SV.int IntKind.u64 (So.gt (UN (sp v.F v.G) v.L) j).fst, SV.int IntKind.u64 (So.gt (UN (sp v.F v.G) v.L) j).snd]) i) = true
noncomputable def f6_8 (v : V6) : (Prop) := false = false → decide ((↑v.L : Int) > (60 : Int)) = false → cnd (!!decide (So.Ap (So.seg (sp (inj20 (V20w.mk (UN (sp v.F v.G) v.L).length (UN (sp v.F v.G) v.L).length (fun (j : Nat) => (So.gt (UN (sp v.F v.G) v.L) j).fst) fun (j : Nat) => (So.gt (UN (sp v.F v.G) v.L) j).snd) (Go.Obj.cells #[] (0 : Go.TypeId))).F (inj20 (V20w.mk (UN (sp v.F v.G) v.L).length (UN (sp v.F v.G) v.L).length (fun (j : Nat) => (So.gt (UN (sp v.F v.G) v.L) j).fst) fun (j : Nat) => (So.gt (UN (sp v.F v.G) v.L) j).snd) (Go.Obj.cells #[] (0 : Go.TypeId))).G) (0:Nat) (inj20 (V20w.mk (UN (sp v.F v.G) v.L).length (UN (sp v.F v.G) v.L).length (fun (j : Nat) => (So.gt (UN (sp v.F v.G) v.L) j).fst) fun (j : Nat) => (So.gt (UN (sp v.F v.G) v.L) j).snd) (Go.Obj.cells #[] (0 : Go.TypeId))).L))) true false = true → (∀ (i : Nat), scpL (0:Nat) ((fun (j : Nat) => [SV.int IntKind.u64 (v.F j), SV.int IntKind.u64 (v.G j)]) i) = true) ∧ (∀ (i : Nat), i < v.M → (fun (j : Nat) => [SV.int IntKind.u64 (v.F j), SV.int IntKind.u64 (v.G j)]) i = elC (fun (j : Nat) => [SV.int IntKind.u64 (v.F j), SV.int IntKind.u64 (v.G j)]) (0:Nat) [Ck.int IntKind.u64, Ck.int IntKind.u64] i) ∧ pre25 (V25.mk v.L v.at_ v.M v.ob v.F v.G) ∧ ∀ (i : Nat), scpL (0:Nat) ((fun (j : Nat) => [SV.int IntKind.u64 (v.F j), SV.int IntKind.u64 (v.G j)]) i) = true
noncomputable def f6_9 (v : V6) : (Prop) := false = false → decide ((↑v.L : Int) > (60 : Int)) = false → cnd (!cnd (!decide (So.Ap (So.seg (sp (inj20 (V20w.mk (UN (sp v.F v.G) v.L).length (UN (sp v.F v.G) v.L).length (fun (j : Nat) => (So.gt (UN (sp v.F v.G) v.L) j).fst) fun (j : Nat) => (So.gt (UN (sp v.F v.G) v.L) j).snd) (Go.Obj.cells #[] (0 : Go.TypeId))).F (inj20 (V20w.mk (UN (sp v.F v.G) v.L).length (UN (sp v.F v.G) v.L).length (fun (j : Nat) => (So.gt (UN (sp v.F v.G) v.L) j).fst) fun (j : Nat) => (So.gt (UN (sp v.F v.G) v.L) j).snd) (Go.Obj.cells #[] (0 : Go.TypeId))).G) (0:Nat) (inj20 (V20w.mk (UN (sp v.F v.G) v.L).length (UN (sp v.F v.G) v.L).length (fun (j : Nat) => (So.gt (UN (sp v.F v.G) v.L) j).fst) fun (j : Nat) => (So.gt (UN (sp v.F v.G) v.L) j).snd) (Go.Obj.cells #[] (0 : Go.TypeId))).L))) true !decide (So.Hs (So.seg (sp (inj25 (V25w.mk (UN (sp v.F v.G) v.L).length v.at_ (UN (sp v.F v.G) v.L).length (fun (j : Nat) => (So.gt (UN (sp v.F v.G) v.L) j).fst) fun (j : Nat) => (So.gt (UN (sp v.F v.G) v.L) j).snd) (Go.Obj.cells #[] (0 : Go.TypeId))).F (inj25 (V25w.mk (UN (sp v.F v.G) v.L).length v.at_ (UN (sp v.F v.G) v.L).length (fun (j : Nat) => (So.gt (UN (sp v.F v.G) v.L) j).fst) fun (j : Nat) => (So.gt (UN (sp v.F v.G) v.L) j).snd) (Go.Obj.cells #[] (0 : Go.TypeId))).G) (0:Nat) (inj25 (V25w.mk (UN (sp v.F v.G) v.L).length v.at_ (UN (sp v.F v.G) v.L).length (fun (j : Nat) => (So.gt (UN (sp v.F v.G) v.L) j).fst) fun (j : Nat) => (So.gt (UN (sp v.F v.G) v.L) j).snd) (Go.Obj.cells #[] (0 : Go.TypeId))).L) (inj25 (V25w.mk (UN (sp v.F v.G) v.L).length v.at_ (UN (sp v.F v.G) v.L).length (fun (j : Nat) => (So.gt (UN (sp v.F v.G) v.L) j).fst) fun (j : Nat) => (So.gt (UN (sp v.F v.G) v.L) j).snd) (Go.Obj.cells #[] (0 : Go.TypeId))).at_) == decide (So.Hs (So.seg (sp v.F v.G) (0:Nat) v.L) v.at_)) true false = true → (∀ (i : Nat), scpL (0:Nat) ((fun (j : Nat) => [SV.int IntKind.u64 (So.gt (UN (sp v.F v.G) v.L) j).fst, SV.int IntKind.u64 (So.gt (UN (sp v.F v.G) v.L) j).snd]) i) = true) ∧ (∀ (i : Nat), i < (UN (sp v.F v.G) v.L).length → (fun (j : Nat) => [SV.int IntKind.u64 (So.gt (UN (sp v.F v.G) v.L) j).fst, SV.int IntKind.u64 (So.gt (UN (sp v.F v.G) v.L) j).snd]) i = elC (fun (j : Nat) => [SV.int IntKind.u64 (So.gt (UN (sp v.F v.G) v.L) j).fst, SV.int IntKind.u64 (So.gt (UN (sp v.F v.G) v.L) j).snd]) (0:Nat) [Ck.int IntKind.u64, Ck.int IntKind.u64] i) ∧ pre26 (inj26 (V26w.mk (UN (sp v.F v.G) v.L).length (UN (sp v.F v.G) v.L).length (fun (j : Nat) => (So.gt (UN (sp v.F v.G) v.L) j).fst) fun (j : Nat) => (So.gt (UN (sp v.F v.G) v.L) j).snd) (Go.Obj.cells #[] (0 : Go.TypeId))) ∧ ∀ (i : Nat), scpL (0:Nat) ((fun (j : Nat) => [SV.int IntKind.u64 (So.gt (UN (sp v.F v.G) v.L) j).fst, SV.int IntKind.u64 (So.gt (UN (sp v.F v.G) v.L) j).snd]) i) = true
noncomputable def f6_10 (v : V6) : (Prop) := false = false → decide ((↑v.L : Int) > (60 : Int)) = false → cnd (!cnd (!decide (So.Ap (So.seg (sp (inj20 (V20w.mk (UN (sp v.F v.G) v.L).length (UN (sp v.F v.G) v.L).length (fun (j : Nat) => (So.gt (UN (sp v.F v.G) v.L) j).fst) fun (j : Nat) => (So.gt (UN (sp v.F v.G) v.L) j).snd) (Go.Obj.cells #[] (0 : Go.TypeId))).F (inj20 (V20w.mk (UN (sp v.F v.G) v.L).length (UN (sp v.F v.G) v.L).length (fun (j : Nat) => (So.gt (UN (sp v.F v.G) v.L) j).fst) fun (j : Nat) => (So.gt (UN (sp v.F v.G) v.L) j).snd) (Go.Obj.cells #[] (0 : Go.TypeId))).G) (0:Nat) (inj20 (V20w.mk (UN (sp v.F v.G) v.L).length (UN (sp v.F v.G) v.L).length (fun (j : Nat) => (So.gt (UN (sp v.F v.G) v.L) j).fst) fun (j : Nat) => (So.gt (UN (sp v.F v.G) v.L) j).snd) (Go.Obj.cells #[] (0 : Go.TypeId))).L))) true !decide (So.Hs (So.seg (sp (inj25 (V25w.mk (UN (sp v.F v.G) v.L).length v.at_ (UN (sp v.F v.G) v.L).length (fun (j : Nat) => (So.gt (UN (sp v.F v.G) v.L) j).fst) fun (j : Nat) => (So.gt (UN (sp v.F v.G) v.L) j).snd) (Go.Obj.cells #[] (0 : Go.TypeId))).F (inj25 (V25w.mk (UN (sp v.F v.G) v.L).length v.at_ (UN (sp v.F v.G) v.L).length (fun (j : Nat) => (So.gt (UN (sp v.F v.G) v.L) j).fst) fun (j : Nat) => (So.gt (UN (sp v.F v.G) v.L) j).snd) (Go.Obj.cells #[] (0 : Go.TypeId))).G) (0:Nat) (inj25 (V25w.mk (UN (sp v.F v.G) v.L).length v.at_ (UN (sp v.F v.G) v.L).length (fun (j : Nat) => (So.gt (UN (sp v.F v.G) v.L) j).fst) fun (j : Nat) => (So.gt (UN (sp v.F v.G) v.L) j).snd) (Go.Obj.cells #[] (0 : Go.TypeId))).L) (inj25 (V25w.mk (UN (sp v.F v.G) v.L).length v.at_ (UN (sp v.F v.G) v.L).length (fun (j : Nat) => (So.gt (UN (sp v.F v.G) v.L) j).fst) fun (j : Nat) => (So.gt (UN (sp v.F v.G) v.L) j).snd) (Go.Obj.cells #[] (0 : Go.TypeId))).at_) == decide (So.Hs (So.seg (sp v.F v.G) (0:Nat) v.L) v.at_)) true false = true → (∀ (i : Nat), scpL (0:Nat) ((fun (j : Nat) => [SV.int IntKind.u64 (v.F j), SV.int IntKind.u64 (v.G j)]) i) = true) ∧ (∀ (i : Nat), i < v.M → (fun (j : Nat) => [SV.int IntKind.u64 (v.F j), SV.int IntKind.u64 (v.G j)]) i = elC (fun (j : Nat) => [SV.int IntKind.u64 (v.F j), SV.int IntKind.u64 (v.G j)]) (0:Nat) [Ck.int IntKind.u64, Ck.int IntKind.u64] i) ∧ pre26 (V26.mk v.L v.M v.ob v.F v.G) ∧ ∀ (i : Nat), scpL (0:Nat) ((fun (j : Nat) => [SV.int IntKind.u64 (v.F j), SV.int IntKind.u64 (v.G j)]) i) = true
noncomputable def f6_11 (v : V6) : (Prop) := false = false → decide ((↑v.L : Int) > (60 : Int)) = false → cnd (cnd (!decide (So.Ap (So.seg (sp (inj20 (V20w.mk (UN (sp v.F v.G) v.L).length (UN (sp v.F v.G) v.L).length (fun (j : Nat) => (So.gt (UN (sp v.F v.G) v.L) j).fst) fun (j : Nat) => (So.gt (UN (sp v.F v.G) v.L) j).snd) (Go.Obj.cells #[] (0 : Go.TypeId))).F (inj20 (V20w.mk (UN (sp v.F v.G) v.L).length (UN (sp v.F v.G) v.L).length (fun (j : Nat) => (So.gt (UN (sp v.F v.G) v.L) j).fst) fun (j : Nat) => (So.gt (UN (sp v.F v.G) v.L) j).snd) (Go.Obj.cells #[] (0 : Go.TypeId))).G) (0:Nat) (inj20 (V20w.mk (UN (sp v.F v.G) v.L).length (UN (sp v.F v.G) v.L).length (fun (j : Nat) => (So.gt (UN (sp v.F v.G) v.L) j).fst) fun (j : Nat) => (So.gt (UN (sp v.F v.G) v.L) j).snd) (Go.Obj.cells #[] (0 : Go.TypeId))).L))) true !decide (So.Hs (So.seg (sp (inj25 (V25w.mk (UN (sp v.F v.G) v.L).length v.at_ (UN (sp v.F v.G) v.L).length (fun (j : Nat) => (So.gt (UN (sp v.F v.G) v.L) j).fst) fun (j : Nat) => (So.gt (UN (sp v.F v.G) v.L) j).snd) (Go.Obj.cells #[] (0 : Go.TypeId))).F (inj25 (V25w.mk (UN (sp v.F v.G) v.L).length v.at_ (UN (sp v.F v.G) v.L).length (fun (j : Nat) => (So.gt (UN (sp v.F v.G) v.L) j).fst) fun (j : Nat) => (So.gt (UN (sp v.F v.G) v.L) j).snd) (Go.Obj.cells #[] (0 : Go.TypeId))).G) (0:Nat) (inj25 (V25w.mk (UN (sp v.F v.G) v.L).length v.at_ (UN (sp v.F v.G) v.L).length (fun (j : Nat) => (So.gt (UN (sp v.F v.G) v.L) j).fst) fun (j : Nat) => (So.gt (UN (sp v.F v.G) v.L) j).snd) (Go.Obj.cells #[] (0 : Go.TypeId))).L) (inj25 (V25w.mk (UN (sp v.F v.G) v.L).length v.at_ (UN (sp v.F v.G) v.L).length (fun (j : Nat) => (So.gt (UN (sp v.F v.G) v.L) j).fst) fun (j : Nat) => (So.gt (UN (sp v.F v.G) v.L) j).snd) (Go.Obj.cells #[] (0 : Go.TypeId))).at_) == decide (So.Hs (So.seg (sp v.F v.G) (0:Nat) v.L) v.at_)) true ((So.tot (RS (sp (inj26 (V26w.mk (UN (sp v.F v.G) v.L).length (UN (sp v.F v.G) v.L).length (fun (j : Nat) => (So.gt (UN (sp v.F v.G) v.L) j).fst) fun (j : Nat) => (So.gt (UN (sp v.F v.G) v.L) j).snd) (Go.Obj.cells #[] (0 : Go.TypeId))).F (inj26 (V26w.mk (UN (sp v.F v.G) v.L).length (UN (sp v.F v.G) v.L).length (fun (j : Nat) => (So.gt (UN (sp v.F v.G) v.L) j).fst) fun (j : Nat) => (So.gt (UN (sp v.F v.G) v.L) j).snd) (Go.Obj.cells #[] (0 : Go.TypeId))).G) (inj26 (V26w.mk (UN (sp v.F v.G) v.L).length (UN (sp v.F v.G) v.L).length (fun (j : Nat) => (So.gt (UN (sp v.F v.G) v.L) j).fst) fun (j : Nat) => (So.gt (UN (sp v.F v.G) v.L) j).snd) (Go.Obj.cells #[] (0 : Go.TypeId))).L)).fst != (So.tot (RS (sp v.F v.G) v.L)).fst) = false → (∀ (i : Nat), i < v.M → (fun (j : Nat) => [SV.int IntKind.u64 (v.F j), SV.int IntKind.u64 (v.G j)]) i = elC (fun (j : Nat) => [SV.int IntKind.u64 (v.F j), SV.int IntKind.u64 (v.G j)]) (0:Nat) [Ck.int IntKind.u64, Ck.int IntKind.u64] i) ∧ ∀ (i : Nat), i < (UN (sp v.F v.G) v.L).length → (fun (j : Nat) => [SV.int IntKind.u64 (So.gt (UN (sp v.F v.G) v.L) j).fst, SV.int IntKind.u64 (So.gt (UN (sp v.F v.G) v.L) j).snd]) i = elC (fun (j : Nat) => [SV.int IntKind.u64 (So.gt (UN (sp v.F v.G) v.L) j).fst, SV.int IntKind.u64 (So.gt (UN (sp v.F v.G) v.L) j).snd]) (0:Nat) [Ck.int IntKind.u64, Ck.int IntKind.u64] i
noncomputable def f6_12 (v : V6) : (Prop) := false = false → decide ((↑v.L : Int) > (60 : Int)) = false → cnd (cnd (!decide (So.Ap (So.seg (sp (inj20 (V20w.mk (UN (sp v.F v.G) v.L).length (UN (sp v.F v.G) v.L).length (fun (j : Nat) => (So.gt (UN (sp v.F v.G) v.L) j).fst) fun (j : Nat) => (So.gt (UN (sp v.F v.G) v.L) j).snd) (Go.Obj.cells #[] (0 : Go.TypeId))).F (inj20 (V20w.mk (UN (sp v.F v.G) v.L).length (UN (sp v.F v.G) v.L).length (fun (j : Nat) => (So.gt (UN (sp v.F v.G) v.L) j).fst) fun (j : Nat) => (So.gt (UN (sp v.F v.G) v.L) j).snd) (Go.Obj.cells #[] (0 : Go.TypeId))).G) (0:Nat) (inj20 (V20w.mk (UN (sp v.F v.G) v.L).length (UN (sp v.F v.G) v.L).length (fun (j : Nat) => (So.gt (UN (sp v.F v.G) v.L) j).fst) fun (j : Nat) => (So.gt (UN (sp v.F v.G) v.L) j).snd) (Go.Obj.cells #[] (0 : Go.TypeId))).L))) true !decide (So.Hs (So.seg (sp (inj25 (V25w.mk (UN (sp v.F v.G) v.L).length v.at_ (UN (sp v.F v.G) v.L).length (fun (j : Nat) => (So.gt (UN (sp v.F v.G) v.L) j).fst) fun (j : Nat) => (So.gt (UN (sp v.F v.G) v.L) j).snd) (Go.Obj.cells #[] (0 : Go.TypeId))).F (inj25 (V25w.mk (UN (sp v.F v.G) v.L).length v.at_ (UN (sp v.F v.G) v.L).length (fun (j : Nat) => (So.gt (UN (sp v.F v.G) v.L) j).fst) fun (j : Nat) => (So.gt (UN (sp v.F v.G) v.L) j).snd) (Go.Obj.cells #[] (0 : Go.TypeId))).G) (0:Nat) (inj25 (V25w.mk (UN (sp v.F v.G) v.L).length v.at_ (UN (sp v.F v.G) v.L).length (fun (j : Nat) => (So.gt (UN (sp v.F v.G) v.L) j).fst) fun (j : Nat) => (So.gt (UN (sp v.F v.G) v.L) j).snd) (Go.Obj.cells #[] (0 : Go.TypeId))).L) (inj25 (V25w.mk (UN (sp v.F v.G) v.L).length v.at_ (UN (sp v.F v.G) v.L).length (fun (j : Nat) => (So.gt (UN (sp v.F v.G) v.L) j).fst) fun (j : Nat) => (So.gt (UN (sp v.F v.G) v.L) j).snd) (Go.Obj.cells #[] (0 : Go.TypeId))).at_) == decide (So.Hs (So.seg (sp v.F v.G) (0:Nat) v.L) v.at_)) true ((So.tot (RS (sp (inj26 (V26w.mk (UN (sp v.F v.G) v.L).length (UN (sp v.F v.G) v.L).length (fun (j : Nat) => (So.gt (UN (sp v.F v.G) v.L) j).fst) fun (j : Nat) => (So.gt (UN (sp v.F v.G) v.L) j).snd) (Go.Obj.cells #[] (0 : Go.TypeId))).F (inj26 (V26w.mk (UN (sp v.F v.G) v.L).length (UN (sp v.F v.G) v.L).length (fun (j : Nat) => (So.gt (UN (sp v.F v.G) v.L) j).fst) fun (j : Nat) => (So.gt (UN (sp v.F v.G) v.L) j).snd) (Go.Obj.cells #[] (0 : Go.TypeId))).G) (inj26 (V26w.mk (UN (sp v.F v.G) v.L).length (UN (sp v.F v.G) v.L).length (fun (j : Nat) => (So.gt (UN (sp v.F v.G) v.L) j).fst) fun (j : Nat) => (So.gt (UN (sp v.F v.G) v.L) j).snd) (Go.Obj.cells #[] (0 : Go.TypeId))).L)).fst != (So.tot (RS (sp v.F v.G) v.L)).fst) = false → LT (r6_0 (P6_0.mk v.L false (UN (sp v.F v.G) v.L).length (UN (sp v.F v.G) v.L).length (↑(UN (sp v.F v.G) v.L).length : Int) v.M v.ob v.F v.G (UN (sp v.F v.G) v.L).length (fun (j : Nat) => (So.gt (UN (sp v.F v.G) v.L) j).fst) fun (j : Nat) => (So.gt (UN (sp v.F v.G) v.L) j).snd)) (S6_0.mk (0 : Int))
noncomputable def f6z0 (v : V6) : S6_0 := lastS (r6_0 (P6_0.mk v.L false (UN (sp v.F v.G) v.L).length (UN (sp v.F v.G) v.L).length (↑(UN (sp v.F v.G) v.L).length : Int) v.M v.ob v.F v.G (UN (sp v.F v.G) v.L).length (fun (j : Nat) => (So.gt (UN (sp v.F v.G) v.L) j).fst) fun (j : Nat) => (So.gt (UN (sp v.F v.G) v.L) j).snd)) (S6_0.mk (0 : Int))
noncomputable def f6_13 (v : V6) : (Prop) := false = false → decide ((↑v.L : Int) > (60 : Int)) = false → cnd (cnd (!decide (So.Ap (So.seg (sp (inj20 (V20w.mk (UN (sp v.F v.G) v.L).length (UN (sp v.F v.G) v.L).length (fun (j : Nat) => (So.gt (UN (sp v.F v.G) v.L) j).fst) fun (j : Nat) => (So.gt (UN (sp v.F v.G) v.L) j).snd) (Go.Obj.cells #[] (0 : Go.TypeId))).F (inj20 (V20w.mk (UN (sp v.F v.G) v.L).length (UN (sp v.F v.G) v.L).length (fun (j : Nat) => (So.gt (UN (sp v.F v.G) v.L) j).fst) fun (j : Nat) => (So.gt (UN (sp v.F v.G) v.L) j).snd) (Go.Obj.cells #[] (0 : Go.TypeId))).G) (0:Nat) (inj20 (V20w.mk (UN (sp v.F v.G) v.L).length (UN (sp v.F v.G) v.L).length (fun (j : Nat) => (So.gt (UN (sp v.F v.G) v.L) j).fst) fun (j : Nat) => (So.gt (UN (sp v.F v.G) v.L) j).snd) (Go.Obj.cells #[] (0 : Go.TypeId))).L))) true !decide (So.Hs (So.seg (sp (inj25 (V25w.mk (UN (sp v.F v.G) v.L).length v.at_ (UN (sp v.F v.G) v.L).length (fun (j : Nat) => (So.gt (UN (sp v.F v.G) v.L) j).fst) fun (j : Nat) => (So.gt (UN (sp v.F v.G) v.L) j).snd) (Go.Obj.cells #[] (0 : Go.TypeId))).F (inj25 (V25w.mk (UN (sp v.F v.G) v.L).length v.at_ (UN (sp v.F v.G) v.L).length (fun (j : Nat) => (So.gt (UN (sp v.F v.G) v.L) j).fst) fun (j : Nat) => (So.gt (UN (sp v.F v.G) v.L) j).snd) (Go.Obj.cells #[] (0 : Go.TypeId))).G) (0:Nat) (inj25 (V25w.mk (UN (sp v.F v.G) v.L).length v.at_ (UN (sp v.F v.G) v.L).length (fun (j : Nat) => (So.gt (UN (sp v.F v.G) v.L) j).fst) fun (j : Nat) => (So.gt (UN (sp v.F v.G) v.L) j).snd) (Go.Obj.cells #[] (0 : Go.TypeId))).L) (inj25 (V25w.mk (UN (sp v.F v.G) v.L).length v.at_ (UN (sp v.F v.G) v.L).length (fun (j : Nat) => (So.gt (UN (sp v.F v.G) v.L) j).fst) fun (j : Nat) => (So.gt (UN (sp v.F v.G) v.L) j).snd) (Go.Obj.cells #[] (0 : Go.TypeId))).at_) == decide (So.Hs (So.seg (sp v.F v.G) (0:Nat) v.L) v.at_)) true ((So.tot (RS (sp (inj26 (V26w.mk (UN (sp v.F v.G) v.L).length (UN (sp v.F v.G) v.L).length (fun (j : Nat) => (So.gt (UN (sp v.F v.G) v.L) j).fst) fun (j : Nat) => (So.gt (UN (sp v.F v.G) v.L) j).snd) (Go.Obj.cells #[] (0 : Go.TypeId))).F (inj26 (V26w.mk (UN (sp v.F v.G) v.L).length (UN (sp v.F v.G) v.L).length (fun (j : Nat) => (So.gt (UN (sp v.F v.G) v.L) j).fst) fun (j : Nat) => (So.gt (UN (sp v.F v.G) v.L) j).snd) (Go.Obj.cells #[] (0 : Go.TypeId))).G) (inj26 (V26w.mk (UN (sp v.F v.G) v.L).length (UN (sp v.F v.G) v.L).length (fun (j : Nat) => (So.gt (UN (sp v.F v.G) v.L) j).fst) fun (j : Nat) => (So.gt (UN (sp v.F v.G) v.L) j).snd) (Go.Obj.cells #[] (0 : Go.TypeId))).L)).fst != (So.tot (RS (sp v.F v.G) v.L)).fst) = false → cnd (e6_0_0 (P6_0.mk v.L false (UN (sp v.F v.G) v.L).length (UN (sp v.F v.G) v.L).length (↑(UN (sp v.F v.G) v.L).length : Int) v.M v.ob v.F v.G (UN (sp v.F v.G) v.L).length (fun (j : Nat) => (So.gt (UN (sp v.F v.G) v.L) j).fst) fun (j : Nat) => (So.gt (UN (sp v.F v.G) v.L) j).snd) (f6z0 v)) false true = false → (∀ (i : Nat), i < v.M → (fun (j : Nat) => [SV.int IntKind.u64 (v.F j), SV.int IntKind.u64 (v.G j)]) i = elC (fun (j : Nat) => [SV.int IntKind.u64 (v.F j), SV.int IntKind.u64 (v.G j)]) (0:Nat) [Ck.int IntKind.u64, Ck.int IntKind.u64] i) ∧ ∀ (i : Nat), i < (UN (sp v.F v.G) v.L).length → (fun (j : Nat) => [SV.int IntKind.u64 (So.gt (UN (sp v.F v.G) v.L) j).fst, SV.int IntKind.u64 (So.gt (UN (sp v.F v.G) v.L) j).snd]) i = elC (fun (j : Nat) => [SV.int IntKind.u64 (So.gt (UN (sp v.F v.G) v.L) j).fst, SV.int IntKind.u64 (So.gt (UN (sp v.F v.G) v.L) j).snd]) (0:Nat) [Ck.int IntKind.u64, Ck.int IntKind.u64] i
noncomputable def f6_14 (v : V6) : (Prop) := false = false → decide ((↑v.L : Int) > (60 : Int)) = false → cnd (cnd (!decide (So.Ap (So.seg (sp (inj20 (V20w.mk (UN (sp v.F v.G) v.L).length (UN (sp v.F v.G) v.L).length (fun (j : Nat) => (So.gt (UN (sp v.F v.G) v.L) j).fst) fun (j : Nat) => (So.gt (UN (sp v.F v.G) v.L) j).snd) (Go.Obj.cells #[] (0 : Go.TypeId))).F (inj20 (V20w.mk (UN (sp v.F v.G) v.L).length (UN (sp v.F v.G) v.L).length (fun (j : Nat) => (So.gt (UN (sp v.F v.G) v.L) j).fst) fun (j : Nat) => (So.gt (UN (sp v.F v.G) v.L) j).snd) (Go.Obj.cells #[] (0 : Go.TypeId))).G) (0:Nat) (inj20 (V20w.mk (UN (sp v.F v.G) v.L).length (UN (sp v.F v.G) v.L).length (fun (j : Nat) => (So.gt (UN (sp v.F v.G) v.L) j).fst) fun (j : Nat) => (So.gt (UN (sp v.F v.G) v.L) j).snd) (Go.Obj.cells #[] (0 : Go.TypeId))).L))) true !decide (So.Hs (So.seg (sp (inj25 (V25w.mk (UN (sp v.F v.G) v.L).length v.at_ (UN (sp v.F v.G) v.L).length (fun (j : Nat) => (So.gt (UN (sp v.F v.G) v.L) j).fst) fun (j : Nat) => (So.gt (UN (sp v.F v.G) v.L) j).snd) (Go.Obj.cells #[] (0 : Go.TypeId))).F (inj25 (V25w.mk (UN (sp v.F v.G) v.L).length v.at_ (UN (sp v.F v.G) v.L).length (fun (j : Nat) => (So.gt (UN (sp v.F v.G) v.L) j).fst) fun (j : Nat) => (So.gt (UN (sp v.F v.G) v.L) j).snd) (Go.Obj.cells #[] (0 : Go.TypeId))).G) (0:Nat) (inj25 (V25w.mk (UN (sp v.F v.G) v.L).length v.at_ (UN (sp v.F v.G) v.L).length (fun (j : Nat) => (So.gt (UN (sp v.F v.G) v.L) j).fst) fun (j : Nat) => (So.gt (UN (sp v.F v.G) v.L) j).snd) (Go.Obj.cells #[] (0 : Go.TypeId))).L) (inj25 (V25w.mk (UN (sp v.F v.G) v.L).length v.at_ (UN (sp v.F v.G) v.L).length (fun (j : Nat) => (So.gt (UN (sp v.F v.G) v.L) j).fst) fun (j : Nat) => (So.gt (UN (sp v.F v.G) v.L) j).snd) (Go.Obj.cells #[] (0 : Go.TypeId))).at_) == decide (So.Hs (So.seg (sp v.F v.G) (0:Nat) v.L) v.at_)) true ((So.tot (RS (sp (inj26 (V26w.mk (UN (sp v.F v.G) v.L).length (UN (sp v.F v.G) v.L).length (fun (j : Nat) => (So.gt (UN (sp v.F v.G) v.L) j).fst) fun (j : Nat) => (So.gt (UN (sp v.F v.G) v.L) j).snd) (Go.Obj.cells #[] (0 : Go.TypeId))).F (inj26 (V26w.mk (UN (sp v.F v.G) v.L).length (UN (sp v.F v.G) v.L).length (fun (j : Nat) => (So.gt (UN (sp v.F v.G) v.L) j).fst) fun (j : Nat) => (So.gt (UN (sp v.F v.G) v.L) j).snd) (Go.Obj.cells #[] (0 : Go.TypeId))).G) (inj26 (V26w.mk (UN (sp v.F v.G) v.L).length (UN (sp v.F v.G) v.L).length (fun (j : Nat) => (So.gt (UN (sp v.F v.G) v.L) j).fst) fun (j : Nat) => (So.gt (UN (sp v.F v.G) v.L) j).snd) (Go.Obj.cells #[] (0 : Go.TypeId))).L)).fst != (So.tot (RS (sp v.F v.G) v.L)).fst) = false → cnd (e6_0_0 (P6_0.mk v.L false (UN (sp v.F v.G) v.L).length (UN (sp v.F v.G) v.L).length (↑(UN (sp v.F v.G) v.L).length : Int) v.M v.ob v.F v.G (UN (sp v.F v.G) v.L).length (fun (j : Nat) => (So.gt (UN (sp v.F v.G) v.L) j).fst) fun (j : Nat) => (So.gt (UN (sp v.F v.G) v.L) j).snd) (f6z0 v)) false true = false → LT (r6_1 (P6_1.mk (UN (sp v.F v.G) v.L).length v.L (↑v.L : Int) v.M v.ob v.F v.G (UN (sp v.F v.G) v.L).length (fun (j : Nat) => (So.gt (UN (sp v.F v.G) v.L) j).fst) fun (j : Nat) => (So.gt (UN (sp v.F v.G) v.L) j).snd)) (S6_1.mk (0 : Int))
noncomputable def f6z1 (v : V6) : S6_1 := lastS (r6_1 (P6_1.mk (UN (sp v.F v.G) v.L).length v.L (↑v.L : Int) v.M v.ob v.F v.G (UN (sp v.F v.G) v.L).length (fun (j : Nat) => (So.gt (UN (sp v.F v.G) v.L) j).fst) fun (j : Nat) => (So.gt (UN (sp v.F v.G) v.L) j).snd)) (S6_1.mk (0 : Int))
noncomputable def f6_15 (v : V6) : (Bool) := cnd (decide ((↑v.L : Int) > (60 : Int))) true (cnd (cnd (cnd (!decide (So.Ap (So.seg (sp (inj20 (V20w.mk (UN (sp v.F v.G) v.L).length (UN (sp v.F v.G) v.L).length (fun (j : Nat) => (So.gt (UN (sp v.F v.G) v.L) j).fst) fun (j : Nat) => (So.gt (UN (sp v.F v.G) v.L) j).snd) (Go.Obj.cells #[] (0 : Go.TypeId))).F (inj20 (V20w.mk (UN (sp v.F v.G) v.L).length (UN (sp v.F v.G) v.L).length (fun (j : Nat) => (So.gt (UN (sp v.F v.G) v.L) j).fst) fun (j : Nat) => (So.gt (UN (sp v.F v.G) v.L) j).snd) (Go.Obj.cells #[] (0 : Go.TypeId))).G) (0:Nat) (inj20 (V20w.mk (UN (sp v.F v.G) v.L).length (UN (sp v.F v.G) v.L).length (fun (j : Nat) => (So.gt (UN (sp v.F v.G) v.L) j).fst) fun (j : Nat) => (So.gt (UN (sp v.F v.G) v.L) j).snd) (Go.Obj.cells #[] (0 : Go.TypeId))).L))) true !decide (So.Hs (So.seg (sp (inj25 (V25w.mk (UN (sp v.F v.G) v.L).length v.at_ (UN (sp v.F v.G) v.L).length (fun (j : Nat) => (So.gt (UN (sp v.F v.G) v.L) j).fst) fun (j : Nat) => (So.gt (UN (sp v.F v.G) v.L) j).snd) (Go.Obj.cells #[] (0 : Go.TypeId))).F (inj25 (V25w.mk (UN (sp v.F v.G) v.L).length v.at_ (UN (sp v.F v.G) v.L).length (fun (j : Nat) => (So.gt (UN (sp v.F v.G) v.L) j).fst) fun (j : Nat) => (So.gt (UN (sp v.F v.G) v.L) j).snd) (Go.Obj.cells #[] (0 : Go.TypeId))).G) (0:Nat) (inj25 (V25w.mk (UN (sp v.F v.G) v.L).length v.at_ (UN (sp v.F v.G) v.L).length (fun (j : Nat) => (So.gt (UN (sp v.F v.G) v.L) j).fst) fun (j : Nat) => (So.gt (UN (sp v.F v.G) v.L) j).snd) (Go.Obj.cells #[] (0 : Go.TypeId))).L) (inj25 (V25w.mk (UN (sp v.F v.G) v.L).length v.at_ (UN (sp v.F v.G) v.L).length (fun (j : Nat) => (So.gt (UN (sp v.F v.G) v.L) j).fst) fun (j : Nat) => (So.gt (UN (sp v.F v.G) v.L) j).snd) (Go.Obj.cells #[] (0 : Go.TypeId))).at_) == decide (So.Hs (So.seg (sp v.F v.G) (0:Nat) v.L) v.at_)) true ((So.tot (RS (sp (inj26 (V26w.mk (UN (sp v.F v.G) v.L).length (UN (sp v.F v.G) v.L).length (fun (j : Nat) => (So.gt (UN (sp v.F v.G) v.L) j).fst) fun (j : Nat) => (So.gt (UN (sp v.F v.G) v.L) j).snd) (Go.Obj.cells #[] (0 : Go.TypeId))).F (inj26 (V26w.mk (UN (sp v.F v.G) v.L).length (UN (sp v.F v.G) v.L).length (fun (j : Nat) => (So.gt (UN (sp v.F v.G) v.L) j).fst) fun (j : Nat) => (So.gt (UN (sp v.F v.G) v.L) j).snd) (Go.Obj.cells #[] (0 : Go.TypeId))).G) (inj26 (V26w.mk (UN (sp v.F v.G) v.L).length (UN (sp v.F v.G) v.L).length (fun (j : Nat) => (So.gt (UN (sp v.F v.G) v.L) j).fst) fun (j : Nat) => (So.gt (UN (sp v.F v.G) v.L) j).snd) (Go.Obj.cells #[] (0 : Go.TypeId))).L)).fst != (So.tot (RS (sp v.F v.G) v.L)).fst)) false (cnd (cnd (e6_0_0 (P6_0.mk v.L false (UN (sp v.F v.G) v.L).length (UN (sp v.F v.G) v.L).length (↑(UN (sp v.F v.G) v.L).length : Int) v.M v.ob v.F v.G (UN (sp v.F v.G) v.L).length (fun (j : Nat) => (So.gt (UN (sp v.F v.G) v.L) j).fst) fun (j : Nat) => (So.gt (UN (sp v.F v.G) v.L) j).snd) (f6z0 v)) false true) false (cnd (cnd (e6_1_0 (P6_1.mk (UN (sp v.F v.G) v.L).length v.L (↑v.L : Int) v.M v.ob v.F v.G (UN (sp v.F v.G) v.L).length (fun (j : Nat) => (So.gt (UN (sp v.F v.G) v.L) j).fst) fun (j : Nat) => (So.gt (UN (sp v.F v.G) v.L) j).snd) (f6z1 v)) false true) false true)))
theorem n_f6_0 (v : V6) : f6_0 v := by
  unfold f6_0
  first
    | (intros; rfl)
    | (intro i; rfl)
    | (intro i _; rfl)
    | (intro _ i; rfl)
    | (intro _ i _; rfl)
    | (refine ⟨?_, ?_⟩ <;> intro i <;> rfl)
    | (refine ⟨?_, ?_, ?_⟩ <;> intro i <;> rfl)
    | (refine ⟨?_, ?_⟩ <;> intro i _ <;> rfl)
    | (repeat' apply And.intro) <;> first | (intro i; rfl) | (intro i _; rfl) | (intro i h; exact absurd h (Nat.not_lt_zero i)) | (intro i; exact scpL_rowSet (by rfl) (by rfl)) | (intro i; exact scpL_rowEl (by kernel_rfl) _)
    | (intros; (repeat' apply And.intro) <;> intros <;> first | rfl | (exact absurd (by assumption) (Nat.not_lt_zero _)))
    | omega
    | decide
theorem n_f6_1 (v : V6) : f6_1 v := by
  unfold f6_1
  first
    | (intros; rfl)
    | (intro i; rfl)
    | (intro i _; rfl)
    | (intro _ i; rfl)
    | (intro _ i _; rfl)
    | (refine ⟨?_, ?_⟩ <;> intro i <;> rfl)
    | (refine ⟨?_, ?_, ?_⟩ <;> intro i <;> rfl)
    | (refine ⟨?_, ?_⟩ <;> intro i _ <;> rfl)
    | (repeat' apply And.intro) <;> first | (intro i; rfl) | (intro i _; rfl) | (intro i h; exact absurd h (Nat.not_lt_zero i)) | (intro i; exact scpL_rowSet (by rfl) (by rfl)) | (intro i; exact scpL_rowEl (by kernel_rfl) _)
    | (intros; (repeat' apply And.intro) <;> intros <;> first | rfl | (exact absurd (by assumption) (Nat.not_lt_zero _)))
    | omega
    | decide
theorem n_f6_3 (v : V6) : f6_3 v := by
  unfold f6_3
  first
    | (intros; rfl)
    | (intro i; rfl)
    | (intro i _; rfl)
    | (intro _ i; rfl)
    | (intro _ i _; rfl)
    | (refine ⟨?_, ?_⟩ <;> intro i <;> rfl)
    | (refine ⟨?_, ?_, ?_⟩ <;> intro i <;> rfl)
    | (refine ⟨?_, ?_⟩ <;> intro i _ <;> rfl)
    | (repeat' apply And.intro) <;> first | (intro i; rfl) | (intro i _; rfl) | (intro i h; exact absurd h (Nat.not_lt_zero i)) | (intro i; exact scpL_rowSet (by rfl) (by rfl)) | (intro i; exact scpL_rowEl (by kernel_rfl) _)
    | (intros; (repeat' apply And.intro) <;> intros <;> first | rfl | (exact absurd (by assumption) (Nat.not_lt_zero _)))
    | omega
    | decide
theorem n_f6_4 (v : V6) : f6_4 v := by
  unfold f6_4
  first
    | (intros; rfl)
    | (intro i; rfl)
    | (intro i _; rfl)
    | (intro _ i; rfl)
    | (intro _ i _; rfl)
    | (refine ⟨?_, ?_⟩ <;> intro i <;> rfl)
    | (refine ⟨?_, ?_, ?_⟩ <;> intro i <;> rfl)
    | (refine ⟨?_, ?_⟩ <;> intro i _ <;> rfl)
    | (repeat' apply And.intro) <;> first | (intro i; rfl) | (intro i _; rfl) | (intro i h; exact absurd h (Nat.not_lt_zero i)) | (intro i; exact scpL_rowSet (by rfl) (by rfl)) | (intro i; exact scpL_rowEl (by kernel_rfl) _)
    | (intros; (repeat' apply And.intro) <;> intros <;> first | rfl | (exact absurd (by assumption) (Nat.not_lt_zero _)))
    | omega
    | decide
theorem n_f6_5 (v : V6) : f6_5 v := by
  unfold f6_5
  first
    | (intros; rfl)
    | (intro i; rfl)
    | (intro i _; rfl)
    | (intro _ i; rfl)
    | (intro _ i _; rfl)
    | (refine ⟨?_, ?_⟩ <;> intro i <;> rfl)
    | (refine ⟨?_, ?_, ?_⟩ <;> intro i <;> rfl)
    | (refine ⟨?_, ?_⟩ <;> intro i _ <;> rfl)
    | (repeat' apply And.intro) <;> first | (intro i; rfl) | (intro i _; rfl) | (intro i h; exact absurd h (Nat.not_lt_zero i)) | (intro i; exact scpL_rowSet (by rfl) (by rfl)) | (intro i; exact scpL_rowEl (by kernel_rfl) _)
    | (intros; (repeat' apply And.intro) <;> intros <;> first | rfl | (exact absurd (by assumption) (Nat.not_lt_zero _)))
    | omega
    | decide
theorem n_f6_11 (v : V6) : f6_11 v := by
  unfold f6_11
  first
    | (intros; rfl)
    | (intro i; rfl)
    | (intro i _; rfl)
    | (intro _ i; rfl)
    | (intro _ i _; rfl)
    | (refine ⟨?_, ?_⟩ <;> intro i <;> rfl)
    | (refine ⟨?_, ?_, ?_⟩ <;> intro i <;> rfl)
    | (refine ⟨?_, ?_⟩ <;> intro i _ <;> rfl)
    | (repeat' apply And.intro) <;> first | (intro i; rfl) | (intro i _; rfl) | (intro i h; exact absurd h (Nat.not_lt_zero i)) | (intro i; exact scpL_rowSet (by rfl) (by rfl)) | (intro i; exact scpL_rowEl (by kernel_rfl) _)
    | (intros; (repeat' apply And.intro) <;> intros <;> first | rfl | (exact absurd (by assumption) (Nat.not_lt_zero _)))
    | omega
    | decide
theorem n_f6_13 (v : V6) : f6_13 v := by
  unfold f6_13
  first
    | (intros; rfl)
    | (intro i; rfl)
    | (intro i _; rfl)
    | (intro _ i; rfl)
    | (intro _ i _; rfl)
    | (refine ⟨?_, ?_⟩ <;> intro i <;> rfl)
    | (refine ⟨?_, ?_, ?_⟩ <;> intro i <;> rfl)
    | (refine ⟨?_, ?_⟩ <;> intro i _ <;> rfl)
    | (repeat' apply And.intro) <;> first | (intro i; rfl) | (intro i _; rfl) | (intro i h; exact absurd h (Nat.not_lt_zero i)) | (intro i; exact scpL_rowSet (by rfl) (by rfl)) | (intro i; exact scpL_rowEl (by kernel_rfl) _)
    | (intros; (repeat' apply And.intro) <;> intros <;> first | rfl | (exact absurd (by assumption) (Nat.not_lt_zero _)))
    | omega
    | decide
noncomputable def ff6 (v : V6) : Tr (Fin th.R) := (Tr.need (f6_0 v) (Tr.need (f6_1 v) (Tr.need (f6_2 v) (Tr.need (f6_3 v) (Tr.need (f6_4 v) (Tr.need (f6_5 v) (Tr.need (f6_6 v) (Tr.need (f6_4 v) (Tr.need (f6_7 v) (Tr.need (f6_8 v) (Tr.need (f6_9 v) (Tr.need (f6_10 v) (Tr.need (f6_11 v) (Tr.need (f6_12 v) (Tr.need (f6_13 v) (Tr.need (f6_14 v) (Tr.leaf (Prod.mk (SV.bool (f6_15 v)) (Prod.mk (List.cons (HO.ro ((27 : Nat)) ((2 : Nat)) (v.M) (fun j => (List.cons (SV.int (IntKind.u64) (v.F j)) (List.cons (SV.int (IntKind.u64) (v.G j)) []))) (v.ob)) []) [])))))))))))))))))))
noncomputable def f6 (v : V6) : Tr (Fin th.R) := (Tr.need (f6_2 v) (Tr.need (f6_6 v) (Tr.need (f6_7 v) (Tr.need (f6_8 v) (Tr.need (f6_9 v) (Tr.need (f6_10 v) (Tr.need (f6_12 v) (Tr.need (f6_14 v) (Tr.leaf (Prod.mk (SV.bool (f6_15 v)) (Prod.mk (List.cons (HO.ro ((27 : Nat)) ((2 : Nat)) (v.M) (fun j => (List.cons (SV.int (IntKind.u64) (v.F j)) (List.cons (SV.int (IntKind.u64) (v.G j)) []))) (v.ob)) []) ([]))))))))))))
noncomputable def C6 : CF th.R := fnC d6 ofV6 (f6 )
theorem q6 (v : V6) : (evFn th Try.prog (auto th Try.prog nice24n [] 20) (autoH [(9, L6_0), (15, L6_1)] [] [] [] : Hints th) 6) (A6 v) (H6 v) = some (ff6 v) := by kernel_rfl
theorem qg6 (v : V6) : ((ff6 v).map (setD [])).get = (f6 v).get := by kernel_rfl
theorem qd6 (v : V6) : allD 1 [] (ff6 v) = true := by kernel_rfl
theorem s6 : Sound Try.prog th 6 (C6 ) := fnC_sound (evFn_sound' (T := th) (P := Try.prog) (tbl := (auto th Try.prog nice24n [] 20)) (auto_sound (nice := nice24n) (us := []) nok24n 20) (H := (autoH [(9, L6_0), (15, L6_1)] [] [] [] : Hints th)) (k := 6) (fnLoops ok6)) d6 A6 H6 toV6 (by kernel_rfl) (fun v => by kernel_rfl)
  (fun l v h => by
    unfold ofV6 at h
    split at h
    · cases h; rfl
    · cases h)
  [] (fun v => ⟨ff6 v, q6 v, fun h => by
    unfold f6 at h; unfold ff6
    simp only [Tr.ok, n_f6_0, n_f6_1, n_f6_3, n_f6_4, n_f6_5, n_f6_11, n_f6_13, true_and, and_true, forall_const, implies_true] at h ⊢
    try exact h, qg6 v, qd6 v⟩)
theorem qdd6 (v : V6) : (f6 v).get.2.2 = [] := by
  rw [← qg6, Tr.map_get]; rfl
end Go.Sx.S

namespace Go.Sx.S
open Go Go.Sx Go.Proofs Go.RowKit
set_option maxRecDepth 100000
open So
def pre6 (v : V6) : Prop := v.L ≤ v.M ∧ ∀ i, i < v.L → 0 ≤ v.F i ∧ v.G i < 18446744073709551616
theorem l6_0 {L M m : Nat} {F G : Nat → Int} {ob : Obj} {U : Nat → Sp} (hm : m ≤ 30000000000) (hU : ∀ i, 0 < i → i < m → (U (i - 1)).2 < (U i).1) :
    LT (r6_0 (P6_0.mk L false m m (m : Int) M ob F G m (fun j => (U j).1) fun j => (U j).2)) (S6_0.mk 0) ∧
      (fun s : S6_0 => (m : Int) ≤ s.x41) (lastS (r6_0 (P6_0.mk L false m m (m : Int) M ob F G m (fun j => (U j).1) fun j => (U j).2)) (S6_0.mk 0)) := by
  refine LT.post (fun s : S6_0 => ∃ i : Nat, s.x41 = i ∧ i ≤ m) (fun s : S6_0 => (m : Int) ≤ s.x41) (fun s : S6_0 => (m - s.x41).toNat) ?_ ?_
  rotate_left
  · exact ⟨0, rfl, Nat.zero_le _⟩
  rintro ⟨x⟩ ⟨i, g1, g2⟩
  simp only at g1
  subst g1
  have w2 : IntKind.i64.wrap ((i : Int) + 1) = ((i + 1 : Nat) : Int) := by rw [wi (by omega) (by omega)]; omega
  simp only [r6_0, e6_0_0, e6_0_2, e6_0_3, e6_0_4, e6_0_5, e6_0_7, Tr.ok, Tr.get, w2, Nat.zero_add, Int.toNat_natCast]
  by_cases hc : i < m
  · have hd : cnd (decide ((i : Int) < (m : Int))) false true = false := by rw [decide_eq_true (by omega)]; rfl
    rw [hd]
    by_cases h0 : 0 < i
    · have w1 : IntKind.i64.wrap ((i : Int) - 1) = ((i - 1 : Nat) : Int) := by rw [wi (by omega) (by omega)]; omega
      have := hU i h0 hc
      rw [decide_eq_true (show (i : Int) > 0 by omega), w1]
      simp only [Int.toNat_natCast]
      rw [decide_eq_false (show ¬ (U (i - 1)).2 ≥ (U i).1 by omega)]
      exact ⟨⟨(fun e => by cases e), fun _ => ⟨⟨by omega, by omega⟩, by omega, ⟨fun _ => ⟨by omega, by omega⟩, fun _ => by omega⟩, (fun e => by cases e), fun _ => trivial⟩⟩, .inr ⟨_, rfl, ⟨i + 1, rfl, by omega⟩, by simp only [w2]; omega⟩⟩
    · rw [decide_eq_false (show ¬ (i : Int) > 0 by omega)]
      exact ⟨⟨(fun e => by cases e), fun _ => ⟨⟨by omega, by omega⟩, by omega, ⟨(fun e => by cases e), (fun e => by cases e)⟩, (fun e => by cases e), fun _ => trivial⟩⟩, .inr ⟨_, rfl, ⟨i + 1, rfl, by omega⟩, by simp only [w2]; omega⟩⟩
  · have hd : cnd (decide ((i : Int) < (m : Int))) false true = true := by rw [decide_eq_false (by omega)]; rfl
    rw [hd]
    exact ⟨⟨fun _ => trivial, (fun e => by cases e)⟩, .inl ⟨⟨_, _, _, rfl⟩, by omega⟩⟩
theorem l6_2 {m n60 N0 : Nat} {x61 x62 : Int} {F G : Nat → Int} {ob : Obj} {U : Nat → Sp} (x : Sp) (b : Bool) (hm : m ≤ 30000000000) :
    LT (r6_2 (P6_2.mk m n60 x61 x62 m (m : Int) N0 ob F G m (fun j => (U j).1) (fun j => (U j).2) x.1 x.2)) (S6_2.mk b 0) ∧
      (fun s : S6_2 => (b = true ∨ ∃ j, j < m ∧ inn x (U j)) → s.b10 = true) (lastS (r6_2 (P6_2.mk m n60 x61 x62 m (m : Int) N0 ob F G m (fun j => (U j).1) (fun j => (U j).2) x.1 x.2)) (S6_2.mk b 0)) := by
  refine LT.post (fun s : S6_2 => ∃ i : Nat, s.x71 = i ∧ i ≤ m ∧ ((b = true ∨ ∃ j, j < i ∧ inn x (U j)) → s.b10 = true)) (fun s : S6_2 => (b = true ∨ ∃ j, j < m ∧ inn x (U j)) → s.b10 = true) (fun s : S6_2 => (m - s.x71).toNat) ?_ ?_
  rotate_left
  · exact ⟨0, rfl, Nat.zero_le _, fun h => by rcases h with h | ⟨j, hj, _⟩; exact h; omega⟩
  rintro ⟨c, y⟩ ⟨i, g1, g2, g3⟩
  simp only at g1 g3
  subst g1
  have w2 : IntKind.i64.wrap ((i : Int) + 1) = ((i + 1 : Nat) : Int) := by rw [wi (by omega) (by omega)]; omega
  have dec := in_dec x (U i)
  simp only [r6_2, e6_2_0, e6_2_2, e6_2_3, e6_2_5, e6_2_6, Tr.ok, Tr.get, w2, Nat.zero_add, Int.toNat_natCast, dec]
  by_cases hc : i < m
  · have hd : cnd (decide ((i : Int) < (m : Int))) false true = false := by rw [decide_eq_true (by omega)]; rfl
    rw [hd]
    refine ⟨⟨(fun e => by cases e), fun _ => ⟨⟨by omega, by omega⟩, by omega, trivial⟩⟩, .inr ⟨_, rfl, ⟨i + 1, rfl, by omega, fun h => ?_⟩, by simp only [w2]; omega⟩⟩
    simp only [cnd_or, Bool.or_eq_true, decide_eq_true_eq]
    rcases h with h | ⟨j, hj, h⟩
    · exact .inl (g3 (.inl h))
    · by_cases hji : j = i
      · subst hji; exact .inr h
      · exact .inl (g3 (.inr ⟨j, by omega, h⟩))
  · have hd : cnd (decide ((i : Int) < (m : Int))) false true = true := by rw [decide_eq_false (by omega)]; rfl
    have : i = m := by omega
    subst this
    rw [hd]
    exact ⟨⟨fun _ => trivial, (fun e => by cases e)⟩, .inl ⟨⟨_, _, _, rfl⟩, g3⟩⟩
theorem l6_1 {L M m : Nat} {F G : Nat → Int} {ob : Obj} {U : Nat → Sp} (hM : L ≤ M) (hL : L ≤ 30000000000) (hm : m ≤ 30000000000) (hU : ∀ i, i < L → F i < G i → ∃ j, j < m ∧ inn (sp F G i) (U j)) :
    LT (r6_1 (P6_1.mk m L (L : Int) M ob F G m (fun j => (U j).1) fun j => (U j).2)) (S6_1.mk 0) ∧
      (fun s : S6_1 => (L : Int) ≤ s.x62) (lastS (r6_1 (P6_1.mk m L (L : Int) M ob F G m (fun j => (U j).1) fun j => (U j).2)) (S6_1.mk 0)) := by
  refine LT.post (fun s : S6_1 => ∃ i : Nat, s.x62 = i ∧ i ≤ L) (fun s : S6_1 => (L : Int) ≤ s.x62) (fun s : S6_1 => (L - s.x62).toNat) ?_ ?_
  rotate_left
  · exact ⟨0, rfl, Nat.zero_le _⟩
  rintro ⟨x⟩ ⟨i, g1, g2⟩
  simp only at g1
  subst g1
  have w2 : IntKind.i64.wrap ((i : Int) + 1) = ((i + 1 : Nat) : Int) := by rw [wi (by omega) (by omega)]; omega
  simp only [r6_1, e6_1_0, e6_1_2, e6_1_3, e6_1_5, e6_1_6, e6_1_8, Tr.ok, Tr.get, w2, Nat.zero_add, Int.toNat_natCast]
  by_cases hc : i < L
  · have hd : cnd (decide ((i : Int) < (L : Int))) false true = false := by rw [decide_eq_true (by omega)]; rfl
    obtain ⟨k1, k2⟩ := l6_2 (n60 := L) (N0 := M) (x61 := (L : Int)) (x62 := (i : Int)) (F := F) (G := G) (ob := ob) (U := U) (sp F G i) (!f11_0 (F i) (G i)) hm
    have k3 : (lastS (r6_2 (P6_2.mk m L (L : Int) (i : Int) m (m : Int) M ob F G m (fun j => (U j).1) (fun j => (U j).2) (F i) (G i))) (S6_2.mk (!f11_0 (F i) (G i)) 0)).b10 = true := by
      refine k2 ?_
      by_cases hr : F i < G i
      · exact .inr (hU i hc hr)
      · left
        simp [f11_0, hr]
    rw [hd, k3]
    exact ⟨⟨(fun e => by cases e), fun _ => ⟨⟨by omega, by omega⟩, by omega, k1, (fun e => by cases e), fun _ => trivial⟩⟩, .inr ⟨_, rfl, ⟨i + 1, rfl, by omega⟩, by simp only [w2]; omega⟩⟩
  · have hd : cnd (decide ((i : Int) < (L : Int))) false true = true := by rw [decide_eq_false (by omega)]; rfl
    rw [hd]
    exact ⟨⟨fun _ => trivial, (fun e => by cases e)⟩, .inl ⟨⟨_, _, _, rfl⟩, by omega⟩⟩
theorem un_all (E : Nat → Sp) (L : Nat) (h0 : ∀ i, i < L → 0 ≤ (E i).1) : UI (RS E L) (UN E L) := by
  have h := un_seg (n := (RS E L).length) (R := RSr E L) (rs_sorted rfl rfl) (rs_right rfl rfl) (rs_mem (p := fun x => 0 ≤ x.1) h0) _ (Nat.le_refl _)
  have e : seg (RSr E L) 0 (RS E L).length = RS E L := rs_seg rfl rfl
  rw [e] at h
  exact h
theorem unions (a h h' : Bool) (t t' x y : Int) (L m : Int) (h1 : a = true) (h2 : h = h') (h3 : t = t') (h4 : m ≤ x) (h5 : L ≤ y) :
    cnd (cnd (cnd (!a) true !h == h') true (t != t')) false (cnd (cnd (cnd (decide (x < m)) false true) false true) false (cnd (cnd (cnd (decide (y < L)) false true) false true) false true)) = true := by
  subst h1 h2 h3
  rw [decide_eq_false (by omega), decide_eq_false (by omega)]
  cases h <;> simp [cndB]
theorem n6 (v : V6) (h : pre6 v) : (f6 v).ok ∧ (f6 v).get.1 = .bool true ∧ HOws (f6 v).get.2.1 [HO.ro 27 2 v.M (fun j => [SV.int .u64 (v.F j), SV.int .u64 (v.G j)]) v.ob] := by
  cases v with
  | mk L a M ob F G =>
  obtain ⟨h, hw⟩ : L ≤ M ∧ ∀ i, i < L → 0 ≤ F i ∧ G i < 18446744073709551616 := h
  by_cases hL : L ≤ 60
  · have hd : decide ((L : Int) > 60) = false := decide_eq_false (by omega)
    have hb : L ≤ 30000000000 := by omega
    have ui : UI (RS (sp F G) L) (UN (sp F G) L) := un_all _ _ fun i hi => (hw i hi).1
    have mem : ∀ x, x ∈ RS (sp F G) L → ∃ i, i < L ∧ sp F G i = x := fun x hx => mem_seg.1 ((seg_srt _ L).mem_iff.1 (List.mem_filter.1 hx).1)
    have hm : (UN (sp F G) L).length ≤ 30000000000 := by
      have := ui.len
      have : (RS (sp F G) L).length ≤ L := flt_length _ _
      omega
    have hwu : ∀ i, i < (UN (sp F G) L).length → 0 ≤ (gt (UN (sp F G) L) i).1 ∧ (gt (UN (sp F G) L) i).2 < 18446744073709551616 := fun i hi => by
      obtain ⟨s, hs, e⟩ := ui.low _ (gt_mem hi)
      obtain ⟨s', hs', e'⟩ := ui.high _ (gt_mem hi)
      obtain ⟨j, hj, q⟩ := mem s hs
      obtain ⟨j', hj', q'⟩ := mem s' hs'
      rw [← e, ← e', ← q, ← q']
      exact ⟨(hw j hj).1, (hw j' hj').2⟩
    have rise : ∀ i, 0 < i → i < (UN (sp F G) L).length → (gt (UN (sp F G) L) (i - 1)).2 < (gt (UN (sp F G) L) i).1 := fun i h0 hi => by
      have := ui.rise
      rw [← gt_seg (UN (sp F G) L)] at this
      exact pw_seg.1 this (i - 1) i (by omega) hi
    have ins : ∀ i, i < L → F i < G i → ∃ j, j < (UN (sp F G) L).length ∧ inn (sp F G i) (gt (UN (sp F G) L) j) := fun i hi hr => by
      have hmem : sp F G i ∈ RS (sp F G) L := List.mem_filter.2 ⟨(seg_srt _ L).mem_iff.2 (mem_seg.2 ⟨i, hi, rfl⟩), rgt_iff.2 hr⟩
      obtain ⟨x, hx, hin⟩ := ui.ins _ hmem
      rw [← gt_seg (UN (sp F G) L)] at hx
      obtain ⟨j, hj, rfl⟩ := mem_seg.1 hx
      exact ⟨j, hj, hin⟩
    obtain ⟨k1, k2⟩ := l6_0 (L := L) (M := M) (F := F) (G := G) (ob := ob) hm rise
    obtain ⟨k3, k4⟩ := l6_1 (ob := ob) h hb hm ins
    have ea : decide (Ap (seg (gt (UN (sp F G) L)) 0 (UN (sp F G) L).length)) = true := by
      rw [gt_seg]; exact decide_eq_true (rise_ap ui.right ui.rise)
    have eh : decide (Hs (seg (gt (UN (sp F G) L)) 0 (UN (sp F G) L).length) a) = decide (Hs (seg (sp F G) 0 L) a) := by
      rw [Bool.eq_iff_iff, decide_eq_true_iff, decide_eq_true_iff, gt_seg, ui.cov a]; exact Hs_flt
    have et : (tot (RS (gt (UN (sp F G) L)) (UN (sp F G) L).length)).1 = (tot (RS (sp F G) L)).1 := by
      rw [← ui.same]; exact congrArg (fun l => (tot l).1) (rise_rs ui.right ui.rise)
    refine ⟨⟨fun _ _ => ⟨h, hb⟩, fun _ _ => ⟨Nat.le_refl _, hm⟩, fun _ _ _ => ⟨fun _ => rfl, fun _ _ => rfl, ⟨Nat.le_refl _, hm⟩, fun _ => rfl⟩, fun _ _ _ => ⟨fun _ => rfl, fun _ _ => rfl, ⟨h, hb⟩, fun _ => rfl⟩,
      fun _ _ _ => ⟨fun _ => rfl, fun _ _ => rfl, ⟨Nat.le_refl _, hm, hwu⟩, fun _ => rfl⟩, fun _ _ _ => ⟨fun _ => rfl, fun _ _ => rfl, ⟨h, hb, hw⟩, fun _ => rfl⟩, fun _ _ _ => k1, fun _ _ _ _ => k3, trivial⟩, ?_, .refl _⟩
    refine congrArg SV.bool ?_
    unfold f6_15
    rw [hd]
    exact unions _ _ _ _ _ _ _ _ _ ea eh et k2 k4
  · have hd : decide ((L : Int) > 60) = true := decide_eq_true (by omega)
    have no : ∀ {p : Prop}, decide ((L : Int) > 60) = false → p := fun e => by rw [hd] at e; cases e
    refine ⟨⟨fun _ e => no e, fun _ e => no e, fun _ e => no e, fun _ e => no e, fun _ e => no e, fun _ e => no e, fun _ e => no e, fun _ e => no e, trivial⟩, ?_, .refl _⟩
    refine congrArg SV.bool ?_
    unfold f6_15
    rw [hd]
    rfl
noncomputable def f6n (v : V6) : Tr (Fin th.R) := .need (pre6 v) (.leaf (.bool true, [.ro 27 2 v.M (fun j => [.int .u64 (v.F j), .int .u64 (v.G j)]) v.ob], []))
theorem s6n : Sound Try.prog th 6 (fnC d6 ofV6 f6n) := fnC_refine s6 fun v h => by
  obtain ⟨hp, _⟩ := h
  obtain ⟨a, b, c⟩ := n6 v hp
  exact ⟨a, b.symm, (qdd6 v).symm, c, by show 1 ≤ 1; decide⟩
theorem claw6 (v : V6) : fnC d6 ofV6 f6n (A6 v) (H6 v) = some (.need (∀ i, i < v.M → (fun j => [.int .u64 (v.F j), .int .u64 (v.G j)] : Nat → List SV) i = elC (fun j => [.int .u64 (v.F j), .int .u64 (v.G j)] : Nat → List SV) 0 [.int .u64, .int .u64] i) ((f6n v).map (fixF (H6 v)))) := by kernel_rfl
noncomputable def nice6n : List (Nat × CF th.R) := (6, lift (fnC d6 ofV6 f6n)) :: nice24n
theorem nok6n : NiceOk Try.prog th nice6n := ⟨lift_sound s6n, nok24n⟩
end Go.Sx.S

