/- Contracts of the functions of this seat, each by the executor and the kernel; part 2. Their conditions stand in each. -/
import Derived.Test.YtdeaddkppjdacaaC1
set_option linter.unusedVariables false
set_option linter.unusedSimpArgs false
namespace Go.Sx.S
open Go Go.Sx Go.Proofs Go.RowKit
set_option maxRecDepth 100000
structure V44 where
  L : Nat
  a : Int
  m : Int
  b : Int
  M : Nat
  F : Nat → Int
  G : Nat → Int
def A44 (v : V44) : List SV := [.slc 0 2 0 v.L, .int .i64 v.a, .int .i64 v.m, .int .i64 v.b, .fn 33 []]
def H44 (v : V44) : List (HO th.R) := [.row 27 2 v.M (fun j => [.int .u64 (v.F j), .int .u64 (v.G j)])]
def toV44 (v : V44) : List (Vl th.R) := [.n v.L, .i v.a, .i v.m, .i v.b, .n v.M, .c v.F, .c v.G]
def ofV44 : List (Vl th.R) → Option V44
  | [.n L, .i a, .i m, .i b, .n M, .c F, .c G] => some ⟨L, a, m, b, M, F, G⟩
  | _ => none
def d44 : Ft := ⟨[.slc0 0 2, .int .i64, .int .i64, .int .i64, .fn 33 []], [.rowc 27 [.int .u64, .int .u64]]⟩
def pre44 (v : V44) : Prop := 0 ≤ v.a ∧ v.a < v.m ∧ v.m < v.b ∧ v.b ≤ v.L ∧ v.L ≤ v.M ∧ v.L < 2305843009213693952 ∧ So.SortedIn v.a.toNat v.m.toNat (sp v.F v.G) ∧ So.SortedIn v.m.toNat v.b.toNat (sp v.F v.G)
noncomputable def f44r (N : Nat) (v : V44) : Tr (Fin th.R) := .need (pre44 v ∧ v.b - v.a < N) (.leaf (.tup [], [rowP v.M (So.srt (sp v.F v.G) v.a.toNat v.b.toNat)], [0]))
noncomputable def C44r (N : Nat) : CF th.R := fnC d44 ofV44 (f44r N)
noncomputable def nice44r (N : Nat) : List (Nat × CF th.R) := (44, lift (C44r N)) :: nice43n
theorem nok44r (N : Nat) (h : Sound Try.prog th 44 (C44r N)) : NiceOk Try.prog th (nice44r N) := ⟨lift_sound h, nok43n⟩
structure P44_0 where
  n0 : Nat
  x1 : Int
  N0 : Nat
  F0_0 : Nat → Int
  F0_1 : Nat → Int
structure S44_0 where
  x10 : Int
  x11 : Int
instance : Inhabited S44_0 := ⟨⟨0, 0⟩⟩
def I44_0 (p : P44_0) (s : S44_0) : St th.R := ⟨[some (.slc 0 2 0 p.n0), some (.int .i64 p.x1), none, none, some (.fn 33 []), none, none, none, none, none, some (.int .i64 s.x10), some (.int .i64 s.x11), none, none, none, none, none, none, none, none, none, none, none, none, none, none, none, none, none, none, none, none, none, none, none, none, none, none, none, none, none, none, none, none, none, none, none, none, none, none, none, none, none, none, none, none, none, none, none, none, none, none, none, none, none, none, none, none, none, none, none, none, none, none, none, none, none, none, none, none, none, none, none, none, none, none, none, none, none, none, none, none, none, none, none, none, none, none, none, none, none, none, none, none, none, none, none, none, none, none, none, none, none, none, none, none, none, none, none, none, none, none, none, none, none, none, none, none, none, none, none, none, none, none, none, none, none, none, none, none, none, none, none, none, none, none, none, none, none, none, none, none, none, none, none, none, none, none, none, none, none, none, none, none, none, none, none, none, none, none, none, none, none, none, none, none, none, none, none, none, none, none, none, none, none, none, none, none, none, none, none, none, none, none, none, none, none, none, none, none, none, none, none, none, none, none, none, none, none, none, none, none, none, none, none, none, none, none, none, none], [.row 27 2 p.N0 (fun j => [.int .u64 (p.F0_0 j), .int .u64 (p.F0_1 j)])], [], []⟩
def d44_0 : Lp := ⟨⟨220, [(0, .slc0 0 2), (1, .int .i64), (4, .fn 33 []), (10, .int .i64), (11, .int .i64)], [.rowc 27 [.int .u64, .int .u64]]⟩, [], 1, [], [0, 1, 10], []⟩
def toV44_0 (p : P44_0) (s : S44_0) : List (Vl th.R) := [.n p.n0, .i p.x1, .i s.x10, .i s.x11, .n p.N0, .c p.F0_0, .c p.F0_1]
def ofV44_0 : List (Vl th.R) → Option (P44_0 × S44_0)
  | [.n n0, .i x1, .i x10, .i x11, .n N0, .c F0_0, .c F0_1] => some (⟨n0, x1, N0, F0_0, F0_1⟩, ⟨x10, x11⟩)
  | _ => none
noncomputable def e44_0_0 (p : P44_0) (s : S44_0) : (Bool) := cnd (decide (s.x10 < s.x11)) false true
noncomputable def e44_0_1 (p : P44_0) (s : S44_0) : (Prop) := ∀ (i : Nat), scpL (0:Nat) ((fun (j : Nat) => [SV.int IntKind.u64 (p.F0_0 j), SV.int IntKind.u64 (p.F0_1 j)]) i) = true
noncomputable def e44_0_2 (p : P44_0) (s : S44_0) : (Prop) := (0 : Int) ≤ (1 : Int)
noncomputable def e44_0_3 (p : P44_0) (s : S44_0) : (Prop) := (true = true → (0 : Int) ≤ IntKind.i64.wrap ((IntKind.u64.wrap (IntKind.i64.wrap (s.x10 + s.x11))).fdiv (2 : Int)) ∧ IntKind.i64.wrap ((IntKind.u64.wrap (IntKind.i64.wrap (s.x10 + s.x11))).fdiv (2 : Int)) < (↑p.n0 : Int)) ∧ (true = true → (0:Nat) + (IntKind.i64.wrap ((IntKind.u64.wrap (IntKind.i64.wrap (s.x10 + s.x11))).fdiv (2 : Int))).toNat < p.N0) ∧ (true = true → (0 : Int) ≤ p.x1 ∧ p.x1 < (↑p.n0 : Int)) ∧ (true = true → (0:Nat) + p.x1.toNat < p.N0)
noncomputable def e44_0_4 (p : P44_0) (s : S44_0) : (Prop) := (∀ (i : Nat), scpL (0:Nat) ((fun (j : Nat) => [SV.int IntKind.u64 (p.F0_0 j), SV.int IntKind.u64 (p.F0_1 j)]) i) = true) ∧ ∀ (i : Nat), i < p.N0 → (fun (j : Nat) => [SV.int IntKind.u64 (p.F0_0 j), SV.int IntKind.u64 (p.F0_1 j)]) i = elC (fun (j : Nat) => [SV.int IntKind.u64 (p.F0_0 j), SV.int IntKind.u64 (p.F0_1 j)]) (0:Nat) [Ck.int IntKind.u64, Ck.int IntKind.u64] i
noncomputable def e44_0_5 (p : P44_0) (s : S44_0) : (Int) := cnd (decide (f33_1 (p.F0_0 ((0:Nat) + (IntKind.i64.wrap ((IntKind.u64.wrap (IntKind.i64.wrap (s.x10 + s.x11))).fdiv (2 : Int))).toNat)) (p.F0_1 ((0:Nat) + (IntKind.i64.wrap ((IntKind.u64.wrap (IntKind.i64.wrap (s.x10 + s.x11))).fdiv (2 : Int))).toNat)) (p.F0_0 ((0:Nat) + p.x1.toNat)) (p.F0_1 ((0:Nat) + p.x1.toNat)) < (0 : Int))) (IntKind.i64.wrap (IntKind.i64.wrap ((IntKind.u64.wrap (IntKind.i64.wrap (s.x10 + s.x11))).fdiv (2 : Int)) + (1 : Int))) s.x10
noncomputable def e44_0_6 (p : P44_0) (s : S44_0) : (Int) := cnd (decide (f33_1 (p.F0_0 ((0:Nat) + (IntKind.i64.wrap ((IntKind.u64.wrap (IntKind.i64.wrap (s.x10 + s.x11))).fdiv (2 : Int))).toNat)) (p.F0_1 ((0:Nat) + (IntKind.i64.wrap ((IntKind.u64.wrap (IntKind.i64.wrap (s.x10 + s.x11))).fdiv (2 : Int))).toNat)) (p.F0_0 ((0:Nat) + p.x1.toNat)) (p.F0_1 ((0:Nat) + p.x1.toNat)) < (0 : Int))) s.x11 (IntKind.i64.wrap ((IntKind.u64.wrap (IntKind.i64.wrap (s.x10 + s.x11))).fdiv (2 : Int)))
theorem n_e44_0_1 (p : P44_0) (s : S44_0) : e44_0_1 p s := by
  unfold e44_0_1
  first
    | (intros; rfl)
    | (intro i; rfl)
    | (intro i _; rfl)
    | (intro _ i; rfl)
    | (intro _ i _; rfl)
    | (refine ⟨?_, ?_⟩ <;> intro i <;> rfl)
    | (refine ⟨?_, ?_, ?_⟩ <;> intro i <;> rfl)
    | (refine ⟨?_, ?_⟩ <;> intro i _ <;> rfl)
    | (repeat' apply And.intro) <;> first | (intro i; rfl) | (intro i _; rfl) | (intro i h; exact absurd h (Nat.not_lt_zero i)) | (intro i; exact scpL_rowSet (by rfl) (by rfl)) | (intro i; exact scpL_rowEl (by kernel_rfl) _)
    | (intros; (repeat' apply And.intro) <;> intros <;> first | rfl | (exact absurd (by assumption) (Nat.not_lt_zero _)))
    | omega
    | decide
theorem n_e44_0_2 (p : P44_0) (s : S44_0) : e44_0_2 p s := by
  unfold e44_0_2
  first
    | (intros; rfl)
    | (intro i; rfl)
    | (intro i _; rfl)
    | (intro _ i; rfl)
    | (intro _ i _; rfl)
    | (refine ⟨?_, ?_⟩ <;> intro i <;> rfl)
    | (refine ⟨?_, ?_, ?_⟩ <;> intro i <;> rfl)
    | (refine ⟨?_, ?_⟩ <;> intro i _ <;> rfl)
    | (repeat' apply And.intro) <;> first | (intro i; rfl) | (intro i _; rfl) | (intro i h; exact absurd h (Nat.not_lt_zero i)) | (intro i; exact scpL_rowSet (by rfl) (by rfl)) | (intro i; exact scpL_rowEl (by kernel_rfl) _)
    | (intros; (repeat' apply And.intro) <;> intros <;> first | rfl | (exact absurd (by assumption) (Nat.not_lt_zero _)))
    | omega
    | decide
theorem n_e44_0_4 (p : P44_0) (s : S44_0) : e44_0_4 p s := by
  unfold e44_0_4
  first
    | (intros; rfl)
    | (intro i; rfl)
    | (intro i _; rfl)
    | (intro _ i; rfl)
    | (intro _ i _; rfl)
    | (refine ⟨?_, ?_⟩ <;> intro i <;> rfl)
    | (refine ⟨?_, ?_, ?_⟩ <;> intro i <;> rfl)
    | (refine ⟨?_, ?_⟩ <;> intro i _ <;> rfl)
    | (repeat' apply And.intro) <;> first | (intro i; rfl) | (intro i _; rfl) | (intro i h; exact absurd h (Nat.not_lt_zero i)) | (intro i; exact scpL_rowSet (by rfl) (by rfl)) | (intro i; exact scpL_rowEl (by kernel_rfl) _)
    | (intros; (repeat' apply And.intro) <;> intros <;> first | rfl | (exact absurd (by assumption) (Nat.not_lt_zero _)))
    | omega
    | decide
noncomputable def rf44_0 (p : P44_0) (s : S44_0) : Tr (Rs th.R S44_0) := (Tr.ite (e44_0_0 p s) (Tr.need (e44_0_1 p s) (Tr.leaf (Rs.out (Ex.exit ((0:Nat))) (List.cons (Option.some (SV.slc ((0:Nat)) ((2 : Nat)) ((0:Nat)) (p.n0))) (List.cons (Option.some (SV.int (IntKind.i64) (p.x1))) (none :: (none :: (none :: (none :: (none :: (none :: (none :: (none :: (List.cons (Option.some (SV.int (IntKind.i64) (s.x10))) (none :: (none :: (none :: (none :: (none :: (none :: (none :: (none :: (none :: (none :: (none :: (none :: (none :: (none :: (none :: (none :: (none :: (none :: (none :: (none :: (none :: (none :: (none :: (none :: (none :: (none :: (none :: (none :: (none :: (none :: (none :: (none :: (none :: (none :: (none :: (none :: (none :: (none :: (none :: (none :: (none :: (none :: (none :: (none :: (none :: (none :: (none :: (none :: (none :: (none :: (none :: (none :: (none :: (none :: (none :: (none :: (none :: (none :: (none :: (none :: (none :: (none :: (none :: (none :: (none :: (none :: (none :: (none :: (none :: (none :: (none :: (none :: (none :: (none :: (none :: (none :: (none :: (none :: (none :: (none :: (none :: (none :: (none :: (none :: (none :: (none :: (none :: (none :: (none :: (none :: (none :: (none :: (none :: (none :: (none :: (none :: (none :: (none :: (none :: (none :: (none :: (none :: (none :: (none :: (none :: (none :: (none :: (none :: (none :: (none :: (none :: (none :: (none :: (none :: (none :: (none :: (none :: (none :: (none :: (none :: (none :: (none :: (none :: (none :: (none :: (none :: (none :: (none :: (none :: (none :: (none :: (none :: (none :: (none :: (none :: (none :: (none :: (none :: (none :: (none :: (none :: (none :: (none :: (none :: (none :: (none :: (none :: (none :: (none :: (none :: (none :: (none :: (none :: (none :: (none :: (none :: (none :: (none :: (none :: (none :: (none :: (none :: (none :: (none :: (none :: (none :: (none :: (none :: (none :: (none :: (none :: (none :: (none :: (none :: (none :: (none :: (none :: (none :: (none :: (none :: (none :: (none :: (none :: (none :: (none :: (none :: (none :: (none :: (none :: (none :: (none :: (none :: (none :: (none :: (none :: (none :: (none :: (none :: (none :: (none :: (none :: (none :: (none :: (none :: (none :: (none :: (none :: (none :: (none :: [])))))))))))))))))))))))))))))))))))))))))))))))))))))))))))))))))))))))))))))))))))))))))))))))))))))))))))))))))))))))))))))))))))))))))))))))))))))))))))))))))))))))))))))))))))))))))))))))))))))))))))))))))))))))))))) (List.cons (HO.row ((27 : Nat)) ((2 : Nat)) (p.N0) (fun j => (List.cons (SV.int (IntKind.u64) (p.F0_0 j)) (List.cons (SV.int (IntKind.u64) (p.F0_1 j)) [])))) [])))) (Tr.need (e44_0_2 p s) (Tr.need (e44_0_3 p s) (Tr.need (e44_0_4 p s) (Tr.leaf (Rs.on (S44_0.mk ((e44_0_5 p s)) ((e44_0_6 p s)))))))))
noncomputable def r44_0 (p : P44_0) (s : S44_0) : Tr (Rs th.R S44_0) := (Tr.ite (e44_0_0 p s) (Tr.leaf (Rs.out (Ex.exit ((0:Nat))) (List.cons (Option.some (SV.slc ((0:Nat)) ((2 : Nat)) ((0:Nat)) (p.n0))) (List.cons (Option.some (SV.int (IntKind.i64) (p.x1))) (none :: (none :: (none :: (none :: (none :: (none :: (none :: (none :: (List.cons (Option.some (SV.int (IntKind.i64) (s.x10))) (none :: (none :: (none :: (none :: (none :: (none :: (none :: (none :: (none :: (none :: (none :: (none :: (none :: (none :: (none :: (none :: (none :: (none :: (none :: (none :: (none :: (none :: (none :: (none :: (none :: (none :: (none :: (none :: (none :: (none :: (none :: (none :: (none :: (none :: (none :: (none :: (none :: (none :: (none :: (none :: (none :: (none :: (none :: (none :: (none :: (none :: (none :: (none :: (none :: (none :: (none :: (none :: (none :: (none :: (none :: (none :: (none :: (none :: (none :: (none :: (none :: (none :: (none :: (none :: (none :: (none :: (none :: (none :: (none :: (none :: (none :: (none :: (none :: (none :: (none :: (none :: (none :: (none :: (none :: (none :: (none :: (none :: (none :: (none :: (none :: (none :: (none :: (none :: (none :: (none :: (none :: (none :: (none :: (none :: (none :: (none :: (none :: (none :: (none :: (none :: (none :: (none :: (none :: (none :: (none :: (none :: (none :: (none :: (none :: (none :: (none :: (none :: (none :: (none :: (none :: (none :: (none :: (none :: (none :: (none :: (none :: (none :: (none :: (none :: (none :: (none :: (none :: (none :: (none :: (none :: (none :: (none :: (none :: (none :: (none :: (none :: (none :: (none :: (none :: (none :: (none :: (none :: (none :: (none :: (none :: (none :: (none :: (none :: (none :: (none :: (none :: (none :: (none :: (none :: (none :: (none :: (none :: (none :: (none :: (none :: (none :: (none :: (none :: (none :: (none :: (none :: (none :: (none :: (none :: (none :: (none :: (none :: (none :: (none :: (none :: (none :: (none :: (none :: (none :: (none :: (none :: (none :: (none :: (none :: (none :: (none :: (none :: (none :: (none :: (none :: (none :: (none :: (none :: (none :: (none :: (none :: (none :: (none :: (none :: (none :: (none :: (none :: (none :: (none :: (none :: (none :: (none :: (none :: (none :: [])))))))))))))))))))))))))))))))))))))))))))))))))))))))))))))))))))))))))))))))))))))))))))))))))))))))))))))))))))))))))))))))))))))))))))))))))))))))))))))))))))))))))))))))))))))))))))))))))))))))))))))))))))))))))))) (List.cons (HO.row ((27 : Nat)) ((2 : Nat)) (p.N0) (fun j => (List.cons (SV.int (IntKind.u64) (p.F0_0 j)) (List.cons (SV.int (IntKind.u64) (p.F0_1 j)) [])))) []))) (Tr.need (e44_0_3 p s) (Tr.leaf (Rs.on (S44_0.mk ((e44_0_5 p s)) ((e44_0_6 p s)))))))
noncomputable def E44_0 : St th.R → Out th := evCode th Try.prog (auto th Try.prog nice43n [] 20) (autoH [] [] [] [999998] : Hints th) (lpAt Try.prog 44 0)
theorem B44_0 : CodeSound th Try.prog (lpAt Try.prog 44 0) E44_0 := evCode_sound (T := th) (P := Try.prog) (tbl := (auto th Try.prog nice43n [] 20)) (auto_sound (nice := nice43n) (us := []) nok43n 20) (autoH [] [] [] [999998] : Hints th) _ (LoopsOk_mem (fun _ => rfl) _ fun b hb L hL => by cases hL)
noncomputable def L44_0 : St th.R → Out th := loopL d44_0 ofV44_0 r44_0
theorem h1_44_0 (p : P44_0) (s : S44_0) : bld d44_0.tm (toV44_0 p s) = some (I44_0 p s) := by kernel_rfl
theorem h2_44_0 (l : List (Vl th.R)) (p : P44_0) (s : S44_0) (h : ofV44_0 l = some (p, s)) : l = toV44_0 p s := by
  unfold ofV44_0 at h
  split at h
  · cases h; rfl
  · cases h
theorem h3_44_0 (p : P44_0) (s : S44_0) : cvE d44_0 (E44_0 (I44_0 p s)) = some ((rf44_0 p s).map (Rs.map (toV44_0 p))) := by kernel_rfl
theorem h3g_44_0 (p : P44_0) (s : S44_0) : (rf44_0 p s).get = (r44_0 p s).get := by kernel_rfl
theorem h4_44_0 (p : P44_0) (s s1 : S44_0) : outH d44_0.dirt d44_0.n0 (r44_0 p s) = repH (maskH d44_0.dirt 0 d44_0.n0 (I44_0 p s1).heap) (r44_0 p s) := by kernel_rfl
theorem ls44_0 : CodeSound th Try.prog (.loop (lpAt Try.prog 44 0)) L44_0 := loopL_sound B44_0 d44_0 I44_0 toV44_0 (by kernel_rfl) h1_44_0 h2_44_0
  (fun p s => ⟨(rf44_0 p s).map (Rs.map (toV44_0 p)), h3_44_0 p s, fun h => by
    rw [Tr.map_ok]
    unfold r44_0 at h; unfold rf44_0
    simp only [Tr.ok, n_e44_0_1, n_e44_0_2, n_e44_0_4, true_and, and_true, forall_const, implies_true] at h ⊢
    try exact h, by rw [Tr.map_get, h3g_44_0 p s]⟩) h4_44_0
structure P44_1 where
  n0 : Nat
  x10 : Int
  N0 : Nat
structure S44_1 where
  x13 : Int
  F0_0 : Nat → Int
  F0_1 : Nat → Int
instance : Inhabited S44_1 := ⟨⟨0, fun _ => 0, fun _ => 0⟩⟩
def I44_1 (p : P44_1) (s : S44_1) : St th.R := ⟨[some (.slc 0 2 0 p.n0), none, none, none, none, none, none, none, none, none, some (.int .i64 p.x10), none, none, some (.int .i64 s.x13), none, none, none, none, none, none, none, none, none, none, none, none, none, none, none, none, none, none, none, none, none, none, none, none, none, none, none, none, none, none, none, none, none, none, none, none, none, none, none, none, none, none, none, none, none, none, none, none, none, none, none, none, none, none, none, none, none, none, none, none, none, none, none, none, none, none, none, none, none, none, none, none, none, none, none, none, none, none, none, none, none, none, none, none, none, none, none, none, none, none, none, none, none, none, none, none, none, none, none, none, none, none, none, none, none, none, none, none, none, none, none, none, none, none, none, none, none, none, none, none, none, none, none, none, none, none, none, none, none, none, none, none, none, none, none, none, none, none, none, none, none, none, none, none, none, none, none, none, none, none, none, none, none, none, none, none, none, none, none, none, none, none, none, none, none, none, none, none, none, none, none, none, none, none, none, none, none, none, none, none, none, none, none, none, none, none, none, none, none, none, none, none, none, none, none, none, none, none, none, none, none, none, none, none, none, none], [.row 27 2 p.N0 (fun j => [.int .u64 (s.F0_0 j), .int .u64 (s.F0_1 j)])], [], []⟩
def d44_1 : Lp := ⟨⟨220, [(0, .slc0 0 2), (10, .int .i64), (13, .int .i64)], [.rowc 27 [.int .u64, .int .u64]]⟩, [], 1, [0], [], []⟩
def toV44_1 (p : P44_1) (s : S44_1) : List (Vl th.R) := [.n p.n0, .i p.x10, .i s.x13, .n p.N0, .c s.F0_0, .c s.F0_1]
def ofV44_1 : List (Vl th.R) → Option (P44_1 × S44_1)
  | [.n n0, .i x10, .i x13, .n N0, .c F0_0, .c F0_1] => some (⟨n0, x10, N0⟩, ⟨x13, F0_0, F0_1⟩)
  | _ => none
noncomputable def e44_1_0 (p : P44_1) (s : S44_1) : (Bool) := cnd (decide (s.x13 < IntKind.i64.wrap (p.x10 - (1 : Int)))) false true
noncomputable def e44_1_1 (p : P44_1) (s : S44_1) : (Prop) := ∀ (i : Nat), scpL (0:Nat) ((fun (j : Nat) => [SV.int IntKind.u64 (s.F0_0 j), SV.int IntKind.u64 (s.F0_1 j)]) i) = true
noncomputable def e44_1_2 (p : P44_1) (s : S44_1) : (Prop) := (true = true → (0 : Int) ≤ IntKind.i64.wrap (s.x13 + (1 : Int)) ∧ IntKind.i64.wrap (s.x13 + (1 : Int)) < (↑p.n0 : Int)) ∧ (true = true → (0:Nat) + (IntKind.i64.wrap (s.x13 + (1 : Int))).toNat < p.N0) ∧ (true = true → (0 : Int) ≤ s.x13 ∧ s.x13 < (↑p.n0 : Int)) ∧ (true = true → (0:Nat) + s.x13.toNat < p.N0) ∧ (true = true → (0 : Int) ≤ s.x13 ∧ s.x13 < (↑p.n0 : Int)) ∧ ((0:Nat) + s.x13.toNat < p.N0 ∧ (2 : Nat) = (2 : Nat)) ∧ (true = true → (0 : Int) ≤ IntKind.i64.wrap (s.x13 + (1 : Int)) ∧ IntKind.i64.wrap (s.x13 + (1 : Int)) < (↑p.n0 : Int)) ∧ (0:Nat) + (IntKind.i64.wrap (s.x13 + (1 : Int))).toNat < p.N0 ∧ (2 : Nat) = (2 : Nat)
noncomputable def e44_1_3 (p : P44_1) (s : S44_1) : (Prop) := (∀ (i : Nat), scpL (0:Nat) ((fun (j : Nat) => rowSet (j.beq ((0:Nat) + (IntKind.i64.wrap (s.x13 + (1 : Int))).toNat)) (splice ((fun (j : Nat) => rowSet (j.beq ((0:Nat) + s.x13.toNat)) (splice ((fun (j : Nat) => [SV.int IntKind.u64 (s.F0_0 j), SV.int IntKind.u64 (s.F0_1 j)]) ((0:Nat) + s.x13.toNat)) (0:Nat) (SV.agg (List.take (2 : Nat) (List.drop (0:Nat) ((fun (j : Nat) => [SV.int IntKind.u64 (s.F0_0 j), SV.int IntKind.u64 (s.F0_1 j)]) ((0:Nat) + (IntKind.i64.wrap (s.x13 + (1 : Int))).toNat))))).cells) ((fun (j : Nat) => [SV.int IntKind.u64 (s.F0_0 j), SV.int IntKind.u64 (s.F0_1 j)]) j)) ((0:Nat) + (IntKind.i64.wrap (s.x13 + (1 : Int))).toNat)) (0:Nat) (SV.agg (List.take (2 : Nat) (List.drop (0:Nat) ((fun (j : Nat) => [SV.int IntKind.u64 (s.F0_0 j), SV.int IntKind.u64 (s.F0_1 j)]) ((0:Nat) + s.x13.toNat))))).cells) ((fun (j : Nat) => rowSet (j.beq ((0:Nat) + s.x13.toNat)) (splice ((fun (j : Nat) => [SV.int IntKind.u64 (s.F0_0 j), SV.int IntKind.u64 (s.F0_1 j)]) ((0:Nat) + s.x13.toNat)) (0:Nat) (SV.agg (List.take (2 : Nat) (List.drop (0:Nat) ((fun (j : Nat) => [SV.int IntKind.u64 (s.F0_0 j), SV.int IntKind.u64 (s.F0_1 j)]) ((0:Nat) + (IntKind.i64.wrap (s.x13 + (1 : Int))).toNat))))).cells) ((fun (j : Nat) => [SV.int IntKind.u64 (s.F0_0 j), SV.int IntKind.u64 (s.F0_1 j)]) j)) j)) i) = true) ∧ ∀ (i : Nat), i < p.N0 → (fun (j : Nat) => rowSet (j.beq ((0:Nat) + (IntKind.i64.wrap (s.x13 + (1 : Int))).toNat)) (splice ((fun (j : Nat) => rowSet (j.beq ((0:Nat) + s.x13.toNat)) (splice ((fun (j : Nat) => [SV.int IntKind.u64 (s.F0_0 j), SV.int IntKind.u64 (s.F0_1 j)]) ((0:Nat) + s.x13.toNat)) (0:Nat) (SV.agg (List.take (2 : Nat) (List.drop (0:Nat) ((fun (j : Nat) => [SV.int IntKind.u64 (s.F0_0 j), SV.int IntKind.u64 (s.F0_1 j)]) ((0:Nat) + (IntKind.i64.wrap (s.x13 + (1 : Int))).toNat))))).cells) ((fun (j : Nat) => [SV.int IntKind.u64 (s.F0_0 j), SV.int IntKind.u64 (s.F0_1 j)]) j)) ((0:Nat) + (IntKind.i64.wrap (s.x13 + (1 : Int))).toNat)) (0:Nat) (SV.agg (List.take (2 : Nat) (List.drop (0:Nat) ((fun (j : Nat) => [SV.int IntKind.u64 (s.F0_0 j), SV.int IntKind.u64 (s.F0_1 j)]) ((0:Nat) + s.x13.toNat))))).cells) ((fun (j : Nat) => rowSet (j.beq ((0:Nat) + s.x13.toNat)) (splice ((fun (j : Nat) => [SV.int IntKind.u64 (s.F0_0 j), SV.int IntKind.u64 (s.F0_1 j)]) ((0:Nat) + s.x13.toNat)) (0:Nat) (SV.agg (List.take (2 : Nat) (List.drop (0:Nat) ((fun (j : Nat) => [SV.int IntKind.u64 (s.F0_0 j), SV.int IntKind.u64 (s.F0_1 j)]) ((0:Nat) + (IntKind.i64.wrap (s.x13 + (1 : Int))).toNat))))).cells) ((fun (j : Nat) => [SV.int IntKind.u64 (s.F0_0 j), SV.int IntKind.u64 (s.F0_1 j)]) j)) j)) i = elC (fun (j : Nat) => rowSet (j.beq ((0:Nat) + (IntKind.i64.wrap (s.x13 + (1 : Int))).toNat)) (splice ((fun (j : Nat) => rowSet (j.beq ((0:Nat) + s.x13.toNat)) (splice ((fun (j : Nat) => [SV.int IntKind.u64 (s.F0_0 j), SV.int IntKind.u64 (s.F0_1 j)]) ((0:Nat) + s.x13.toNat)) (0:Nat) (SV.agg (List.take (2 : Nat) (List.drop (0:Nat) ((fun (j : Nat) => [SV.int IntKind.u64 (s.F0_0 j), SV.int IntKind.u64 (s.F0_1 j)]) ((0:Nat) + (IntKind.i64.wrap (s.x13 + (1 : Int))).toNat))))).cells) ((fun (j : Nat) => [SV.int IntKind.u64 (s.F0_0 j), SV.int IntKind.u64 (s.F0_1 j)]) j)) ((0:Nat) + (IntKind.i64.wrap (s.x13 + (1 : Int))).toNat)) (0:Nat) (SV.agg (List.take (2 : Nat) (List.drop (0:Nat) ((fun (j : Nat) => [SV.int IntKind.u64 (s.F0_0 j), SV.int IntKind.u64 (s.F0_1 j)]) ((0:Nat) + s.x13.toNat))))).cells) ((fun (j : Nat) => rowSet (j.beq ((0:Nat) + s.x13.toNat)) (splice ((fun (j : Nat) => [SV.int IntKind.u64 (s.F0_0 j), SV.int IntKind.u64 (s.F0_1 j)]) ((0:Nat) + s.x13.toNat)) (0:Nat) (SV.agg (List.take (2 : Nat) (List.drop (0:Nat) ((fun (j : Nat) => [SV.int IntKind.u64 (s.F0_0 j), SV.int IntKind.u64 (s.F0_1 j)]) ((0:Nat) + (IntKind.i64.wrap (s.x13 + (1 : Int))).toNat))))).cells) ((fun (j : Nat) => [SV.int IntKind.u64 (s.F0_0 j), SV.int IntKind.u64 (s.F0_1 j)]) j)) j)) (0:Nat) [Ck.int IntKind.u64, Ck.int IntKind.u64] i
noncomputable def e44_1_4 (p : P44_1) (s : S44_1) : (Int) := IntKind.i64.wrap (s.x13 + (1 : Int))
noncomputable def e44_1_5 (p : P44_1) (s : S44_1) : Nat → (Int) := fun j => cnd (j.beq ((0:Nat) + (IntKind.i64.wrap (s.x13 + (1 : Int))).toNat)) (s.F0_0 ((0:Nat) + s.x13.toNat)) (cnd (j.beq ((0:Nat) + s.x13.toNat)) (s.F0_0 ((0:Nat) + (IntKind.i64.wrap (s.x13 + (1 : Int))).toNat)) (s.F0_0 j))
noncomputable def e44_1_6 (p : P44_1) (s : S44_1) : Nat → (Int) := fun j => cnd (j.beq ((0:Nat) + (IntKind.i64.wrap (s.x13 + (1 : Int))).toNat)) (s.F0_1 ((0:Nat) + s.x13.toNat)) (cnd (j.beq ((0:Nat) + s.x13.toNat)) (s.F0_1 ((0:Nat) + (IntKind.i64.wrap (s.x13 + (1 : Int))).toNat)) (s.F0_1 j))
theorem n_e44_1_1 (p : P44_1) (s : S44_1) : e44_1_1 p s := by
  unfold e44_1_1
  first
    | (intros; rfl)
    | (intro i; rfl)
    | (intro i _; rfl)
    | (intro _ i; rfl)
    | (intro _ i _; rfl)
    | (refine ⟨?_, ?_⟩ <;> intro i <;> rfl)
    | (refine ⟨?_, ?_, ?_⟩ <;> intro i <;> rfl)
    | (refine ⟨?_, ?_⟩ <;> intro i _ <;> rfl)
    | (repeat' apply And.intro) <;> first | (intro i; rfl) | (intro i _; rfl) | (intro i h; exact absurd h (Nat.not_lt_zero i)) | (intro i; exact scpL_rowSet (by rfl) (by rfl)) | (intro i; exact scpL_rowEl (by kernel_rfl) _)
    | (intros; (repeat' apply And.intro) <;> intros <;> first | rfl | (exact absurd (by assumption) (Nat.not_lt_zero _)))
    | omega
    | decide
theorem n_e44_1_3 (p : P44_1) (s : S44_1) : e44_1_3 p s := by
  unfold e44_1_3
  first
    | (intros; rfl)
    | (intro i; rfl)
    | (intro i _; rfl)
    | (intro _ i; rfl)
    | (intro _ i _; rfl)
    | (refine ⟨?_, ?_⟩ <;> intro i <;> rfl)
    | (refine ⟨?_, ?_, ?_⟩ <;> intro i <;> rfl)
    | (refine ⟨?_, ?_⟩ <;> intro i _ <;> rfl)
    | (repeat' apply And.intro) <;> first | (intro i; rfl) | (intro i _; rfl) | (intro i h; exact absurd h (Nat.not_lt_zero i)) | (intro i; exact scpL_rowSet (by rfl) (by rfl)) | (intro i; exact scpL_rowEl (by kernel_rfl) _)
    | (intros; (repeat' apply And.intro) <;> intros <;> first | rfl | (exact absurd (by assumption) (Nat.not_lt_zero _)))
    | omega
    | decide
noncomputable def rf44_1 (p : P44_1) (s : S44_1) : Tr (Rs th.R S44_1) := (Tr.ite (e44_1_0 p s) (Tr.need (e44_1_1 p s) (Tr.leaf (Rs.out (Ex.exit ((2 : Nat))) (none :: (none :: (none :: (none :: (none :: (none :: (none :: (none :: (none :: (none :: (none :: (none :: (none :: (none :: (none :: (none :: (none :: (none :: (none :: (none :: (none :: (none :: (none :: (none :: (none :: (none :: (none :: (none :: (none :: (none :: (none :: (none :: (none :: (none :: (none :: (none :: (none :: (none :: (none :: (none :: (none :: (none :: (none :: (none :: (none :: (none :: (none :: (none :: (none :: (none :: (none :: (none :: (none :: (none :: (none :: (none :: (none :: (none :: (none :: (none :: (none :: (none :: (none :: (none :: (none :: (none :: (none :: (none :: (none :: (none :: (none :: (none :: (none :: (none :: (none :: (none :: (none :: (none :: (none :: (none :: (none :: (none :: (none :: (none :: (none :: (none :: (none :: (none :: (none :: (none :: (none :: (none :: (none :: (none :: (none :: (none :: (none :: (none :: (none :: (none :: (none :: (none :: (none :: (none :: (none :: (none :: (none :: (none :: (none :: (none :: (none :: (none :: (none :: (none :: (none :: (none :: (none :: (none :: (none :: (none :: (none :: (none :: (none :: (none :: (none :: (none :: (none :: (none :: (none :: (none :: (none :: (none :: (none :: (none :: (none :: (none :: (none :: (none :: (none :: (none :: (none :: (none :: (none :: (none :: (none :: (none :: (none :: (none :: (none :: (none :: (none :: (none :: (none :: (none :: (none :: (none :: (none :: (none :: (none :: (none :: (none :: (none :: (none :: (none :: (none :: (none :: (none :: (none :: (none :: (none :: (none :: (none :: (none :: (none :: (none :: (none :: (none :: (none :: (none :: (none :: (none :: (none :: (none :: (none :: (none :: (none :: (none :: (none :: (none :: (none :: (none :: (none :: (none :: (none :: (none :: (none :: (none :: (none :: (none :: (none :: (none :: (none :: (none :: (none :: (none :: (none :: (none :: (none :: (none :: (none :: (none :: (none :: (none :: (none :: (none :: (none :: (none :: (none :: (none :: (none :: [])))))))))))))))))))))))))))))))))))))))))))))))))))))))))))))))))))))))))))))))))))))))))))))))))))))))))))))))))))))))))))))))))))))))))))))))))))))))))))))))))))))))))))))))))))))))))))))))))))))))))))))))))))))))))))) (List.cons (HO.row ((27 : Nat)) ((2 : Nat)) (p.N0) (fun j => (List.cons (SV.int (IntKind.u64) (s.F0_0 j)) (List.cons (SV.int (IntKind.u64) (s.F0_1 j)) [])))) [])))) (Tr.need (e44_1_2 p s) (Tr.need (e44_1_3 p s) (Tr.leaf (Rs.on (S44_1.mk ((e44_1_4 p s)) ((fun j => (e44_1_5 p s j))) ((fun j => (e44_1_6 p s j)))))))))
noncomputable def r44_1 (p : P44_1) (s : S44_1) : Tr (Rs th.R S44_1) := (Tr.ite (e44_1_0 p s) (Tr.leaf (Rs.out (Ex.exit ((2 : Nat))) (none :: (none :: (none :: (none :: (none :: (none :: (none :: (none :: (none :: (none :: (none :: (none :: (none :: (none :: (none :: (none :: (none :: (none :: (none :: (none :: (none :: (none :: (none :: (none :: (none :: (none :: (none :: (none :: (none :: (none :: (none :: (none :: (none :: (none :: (none :: (none :: (none :: (none :: (none :: (none :: (none :: (none :: (none :: (none :: (none :: (none :: (none :: (none :: (none :: (none :: (none :: (none :: (none :: (none :: (none :: (none :: (none :: (none :: (none :: (none :: (none :: (none :: (none :: (none :: (none :: (none :: (none :: (none :: (none :: (none :: (none :: (none :: (none :: (none :: (none :: (none :: (none :: (none :: (none :: (none :: (none :: (none :: (none :: (none :: (none :: (none :: (none :: (none :: (none :: (none :: (none :: (none :: (none :: (none :: (none :: (none :: (none :: (none :: (none :: (none :: (none :: (none :: (none :: (none :: (none :: (none :: (none :: (none :: (none :: (none :: (none :: (none :: (none :: (none :: (none :: (none :: (none :: (none :: (none :: (none :: (none :: (none :: (none :: (none :: (none :: (none :: (none :: (none :: (none :: (none :: (none :: (none :: (none :: (none :: (none :: (none :: (none :: (none :: (none :: (none :: (none :: (none :: (none :: (none :: (none :: (none :: (none :: (none :: (none :: (none :: (none :: (none :: (none :: (none :: (none :: (none :: (none :: (none :: (none :: (none :: (none :: (none :: (none :: (none :: (none :: (none :: (none :: (none :: (none :: (none :: (none :: (none :: (none :: (none :: (none :: (none :: (none :: (none :: (none :: (none :: (none :: (none :: (none :: (none :: (none :: (none :: (none :: (none :: (none :: (none :: (none :: (none :: (none :: (none :: (none :: (none :: (none :: (none :: (none :: (none :: (none :: (none :: (none :: (none :: (none :: (none :: (none :: (none :: (none :: (none :: (none :: (none :: (none :: (none :: (none :: (none :: (none :: (none :: (none :: (none :: [])))))))))))))))))))))))))))))))))))))))))))))))))))))))))))))))))))))))))))))))))))))))))))))))))))))))))))))))))))))))))))))))))))))))))))))))))))))))))))))))))))))))))))))))))))))))))))))))))))))))))))))))))))))))))))) (List.cons (HO.row ((27 : Nat)) ((2 : Nat)) (p.N0) (fun j => (List.cons (SV.int (IntKind.u64) (s.F0_0 j)) (List.cons (SV.int (IntKind.u64) (s.F0_1 j)) [])))) []))) (Tr.need (e44_1_2 p s) (Tr.leaf (Rs.on (S44_1.mk ((e44_1_4 p s)) ((fun j => (e44_1_5 p s j))) ((fun j => (e44_1_6 p s j))))))))
noncomputable def E44_1 : St th.R → Out th := evCode th Try.prog (auto th Try.prog nice43n [] 20) (autoH [] [] [] [999998] : Hints th) (lpAt Try.prog 44 1)
theorem B44_1 : CodeSound th Try.prog (lpAt Try.prog 44 1) E44_1 := evCode_sound (T := th) (P := Try.prog) (tbl := (auto th Try.prog nice43n [] 20)) (auto_sound (nice := nice43n) (us := []) nok43n 20) (autoH [] [] [] [999998] : Hints th) _ (LoopsOk_mem (fun _ => rfl) _ fun b hb L hL => by cases hL)
noncomputable def L44_1 : St th.R → Out th := loopL d44_1 ofV44_1 r44_1
theorem h1_44_1 (p : P44_1) (s : S44_1) : bld d44_1.tm (toV44_1 p s) = some (I44_1 p s) := by kernel_rfl
theorem h2_44_1 (l : List (Vl th.R)) (p : P44_1) (s : S44_1) (h : ofV44_1 l = some (p, s)) : l = toV44_1 p s := by
  unfold ofV44_1 at h
  split at h
  · cases h; rfl
  · cases h
theorem h3_44_1 (p : P44_1) (s : S44_1) : cvE d44_1 (E44_1 (I44_1 p s)) = some ((rf44_1 p s).map (Rs.map (toV44_1 p))) := by kernel_rfl
theorem h3g_44_1 (p : P44_1) (s : S44_1) : (rf44_1 p s).get = (r44_1 p s).get := by kernel_rfl
theorem h4_44_1 (p : P44_1) (s s1 : S44_1) : outH d44_1.dirt d44_1.n0 (r44_1 p s) = repH (maskH d44_1.dirt 0 d44_1.n0 (I44_1 p s1).heap) (r44_1 p s) := by kernel_rfl
theorem ls44_1 : CodeSound th Try.prog (.loop (lpAt Try.prog 44 1)) L44_1 := loopL_sound B44_1 d44_1 I44_1 toV44_1 (by kernel_rfl) h1_44_1 h2_44_1
  (fun p s => ⟨(rf44_1 p s).map (Rs.map (toV44_1 p)), h3_44_1 p s, fun h => by
    rw [Tr.map_ok]
    unfold r44_1 at h; unfold rf44_1
    simp only [Tr.ok, n_e44_1_1, n_e44_1_3, true_and, and_true, forall_const, implies_true] at h ⊢
    try exact h, by rw [Tr.map_get, h3g_44_1 p s]⟩) h4_44_1
structure P44_2 where
  n0 : Nat
  x2 : Int
  N0 : Nat
  F0_0 : Nat → Int
  F0_1 : Nat → Int
structure S44_2 where
  x14 : Int
  x15 : Int
instance : Inhabited S44_2 := ⟨⟨0, 0⟩⟩
def I44_2 (p : P44_2) (s : S44_2) : St th.R := ⟨[some (.slc 0 2 0 p.n0), none, some (.int .i64 p.x2), none, some (.fn 33 []), none, none, none, none, none, none, none, none, none, some (.int .i64 s.x14), some (.int .i64 s.x15), none, none, none, none, none, none, none, none, none, none, none, none, none, none, none, none, none, none, none, none, none, none, none, none, none, none, none, none, none, none, none, none, none, none, none, none, none, none, none, none, none, none, none, none, none, none, none, none, none, none, none, none, none, none, none, none, none, none, none, none, none, none, none, none, none, none, none, none, none, none, none, none, none, none, none, none, none, none, none, none, none, none, none, none, none, none, none, none, none, none, none, none, none, none, none, none, none, none, none, none, none, none, none, none, none, none, none, none, none, none, none, none, none, none, none, none, none, none, none, none, none, none, none, none, none, none, none, none, none, none, none, none, none, none, none, none, none, none, none, none, none, none, none, none, none, none, none, none, none, none, none, none, none, none, none, none, none, none, none, none, none, none, none, none, none, none, none, none, none, none, none, none, none, none, none, none, none, none, none, none, none, none, none, none, none, none, none, none, none, none, none, none, none, none, none, none, none, none, none, none, none, none, none, none], [.row 27 2 p.N0 (fun j => [.int .u64 (p.F0_0 j), .int .u64 (p.F0_1 j)])], [], []⟩
def d44_2 : Lp := ⟨⟨220, [(0, .slc0 0 2), (2, .int .i64), (4, .fn 33 []), (14, .int .i64), (15, .int .i64)], [.rowc 27 [.int .u64, .int .u64]]⟩, [], 1, [], [0, 2, 14], []⟩
def toV44_2 (p : P44_2) (s : S44_2) : List (Vl th.R) := [.n p.n0, .i p.x2, .i s.x14, .i s.x15, .n p.N0, .c p.F0_0, .c p.F0_1]
def ofV44_2 : List (Vl th.R) → Option (P44_2 × S44_2)
  | [.n n0, .i x2, .i x14, .i x15, .n N0, .c F0_0, .c F0_1] => some (⟨n0, x2, N0, F0_0, F0_1⟩, ⟨x14, x15⟩)
  | _ => none
noncomputable def e44_2_0 (p : P44_2) (s : S44_2) : (Bool) := cnd (decide (s.x14 < s.x15)) false true
noncomputable def e44_2_1 (p : P44_2) (s : S44_2) : (Prop) := ∀ (i : Nat), scpL (0:Nat) ((fun (j : Nat) => [SV.int IntKind.u64 (p.F0_0 j), SV.int IntKind.u64 (p.F0_1 j)]) i) = true
noncomputable def e44_2_2 (p : P44_2) (s : S44_2) : (Prop) := (0 : Int) ≤ (1 : Int)
noncomputable def e44_2_3 (p : P44_2) (s : S44_2) : (Prop) := (true = true → (0 : Int) ≤ p.x2 ∧ p.x2 < (↑p.n0 : Int)) ∧ (true = true → (0:Nat) + p.x2.toNat < p.N0) ∧ (true = true → (0 : Int) ≤ IntKind.i64.wrap ((IntKind.u64.wrap (IntKind.i64.wrap (s.x14 + s.x15))).fdiv (2 : Int)) ∧ IntKind.i64.wrap ((IntKind.u64.wrap (IntKind.i64.wrap (s.x14 + s.x15))).fdiv (2 : Int)) < (↑p.n0 : Int)) ∧ (true = true → (0:Nat) + (IntKind.i64.wrap ((IntKind.u64.wrap (IntKind.i64.wrap (s.x14 + s.x15))).fdiv (2 : Int))).toNat < p.N0)
noncomputable def e44_2_4 (p : P44_2) (s : S44_2) : (Prop) := (∀ (i : Nat), scpL (0:Nat) ((fun (j : Nat) => [SV.int IntKind.u64 (p.F0_0 j), SV.int IntKind.u64 (p.F0_1 j)]) i) = true) ∧ ∀ (i : Nat), i < p.N0 → (fun (j : Nat) => [SV.int IntKind.u64 (p.F0_0 j), SV.int IntKind.u64 (p.F0_1 j)]) i = elC (fun (j : Nat) => [SV.int IntKind.u64 (p.F0_0 j), SV.int IntKind.u64 (p.F0_1 j)]) (0:Nat) [Ck.int IntKind.u64, Ck.int IntKind.u64] i
noncomputable def e44_2_5 (p : P44_2) (s : S44_2) : (Int) := cnd (!decide (f33_1 (p.F0_0 ((0:Nat) + p.x2.toNat)) (p.F0_1 ((0:Nat) + p.x2.toNat)) (p.F0_0 ((0:Nat) + (IntKind.i64.wrap ((IntKind.u64.wrap (IntKind.i64.wrap (s.x14 + s.x15))).fdiv (2 : Int))).toNat)) (p.F0_1 ((0:Nat) + (IntKind.i64.wrap ((IntKind.u64.wrap (IntKind.i64.wrap (s.x14 + s.x15))).fdiv (2 : Int))).toNat)) < (0 : Int))) (IntKind.i64.wrap (IntKind.i64.wrap ((IntKind.u64.wrap (IntKind.i64.wrap (s.x14 + s.x15))).fdiv (2 : Int)) + (1 : Int))) s.x14
noncomputable def e44_2_6 (p : P44_2) (s : S44_2) : (Int) := cnd (!decide (f33_1 (p.F0_0 ((0:Nat) + p.x2.toNat)) (p.F0_1 ((0:Nat) + p.x2.toNat)) (p.F0_0 ((0:Nat) + (IntKind.i64.wrap ((IntKind.u64.wrap (IntKind.i64.wrap (s.x14 + s.x15))).fdiv (2 : Int))).toNat)) (p.F0_1 ((0:Nat) + (IntKind.i64.wrap ((IntKind.u64.wrap (IntKind.i64.wrap (s.x14 + s.x15))).fdiv (2 : Int))).toNat)) < (0 : Int))) s.x15 (IntKind.i64.wrap ((IntKind.u64.wrap (IntKind.i64.wrap (s.x14 + s.x15))).fdiv (2 : Int)))
theorem n_e44_2_1 (p : P44_2) (s : S44_2) : e44_2_1 p s := by
  unfold e44_2_1
  first
    | (intros; rfl)
    | (intro i; rfl)
    | (intro i _; rfl)
    | (intro _ i; rfl)
    | (intro _ i _; rfl)
    | (refine ⟨?_, ?_⟩ <;> intro i <;> rfl)
    | (refine ⟨?_, ?_, ?_⟩ <;> intro i <;> rfl)
    | (refine ⟨?_, ?_⟩ <;> intro i _ <;> rfl)
    | (repeat' apply And.intro) <;> first | (intro i; rfl) | (intro i _; rfl) | (intro i h; exact absurd h (Nat.not_lt_zero i)) | (intro i; exact scpL_rowSet (by rfl) (by rfl)) | (intro i; exact scpL_rowEl (by kernel_rfl) _)
    | (intros; (repeat' apply And.intro) <;> intros <;> first | rfl | (exact absurd (by assumption) (Nat.not_lt_zero _)))
    | omega
    | decide
theorem n_e44_2_2 (p : P44_2) (s : S44_2) : e44_2_2 p s := by
  unfold e44_2_2
  first
    | (intros; rfl)
    | (intro i; rfl)
    | (intro i _; rfl)
    | (intro _ i; rfl)
    | (intro _ i _; rfl)
    | (refine ⟨?_, ?_⟩ <;> intro i <;> rfl)
    | (refine ⟨?_, ?_, ?_⟩ <;> intro i <;> rfl)
    | (refine ⟨?_, ?_⟩ <;> intro i _ <;> rfl)
    | (repeat' apply And.intro) <;> first | (intro i; rfl) | (intro i _; rfl) | (intro i h; exact absurd h (Nat.not_lt_zero i)) | (intro i; exact scpL_rowSet (by rfl) (by rfl)) | (intro i; exact scpL_rowEl (by kernel_rfl) _)
    | (intros; (repeat' apply And.intro) <;> intros <;> first | rfl | (exact absurd (by assumption) (Nat.not_lt_zero _)))
    | omega
    | decide
theorem n_e44_2_4 (p : P44_2) (s : S44_2) : e44_2_4 p s := by
  unfold e44_2_4
  first
    | (intros; rfl)
    | (intro i; rfl)
    | (intro i _; rfl)
    | (intro _ i; rfl)
    | (intro _ i _; rfl)
    | (refine ⟨?_, ?_⟩ <;> intro i <;> rfl)
    | (refine ⟨?_, ?_, ?_⟩ <;> intro i <;> rfl)
    | (refine ⟨?_, ?_⟩ <;> intro i _ <;> rfl)
    | (repeat' apply And.intro) <;> first | (intro i; rfl) | (intro i _; rfl) | (intro i h; exact absurd h (Nat.not_lt_zero i)) | (intro i; exact scpL_rowSet (by rfl) (by rfl)) | (intro i; exact scpL_rowEl (by kernel_rfl) _)
    | (intros; (repeat' apply And.intro) <;> intros <;> first | rfl | (exact absurd (by assumption) (Nat.not_lt_zero _)))
    | omega
    | decide
noncomputable def rf44_2 (p : P44_2) (s : S44_2) : Tr (Rs th.R S44_2) := (Tr.ite (e44_2_0 p s) (Tr.need (e44_2_1 p s) (Tr.leaf (Rs.out (Ex.exit ((4 : Nat))) (List.cons (Option.some (SV.slc ((0:Nat)) ((2 : Nat)) ((0:Nat)) (p.n0))) (none :: (List.cons (Option.some (SV.int (IntKind.i64) (p.x2))) (none :: (none :: (none :: (none :: (none :: (none :: (none :: (none :: (none :: (none :: (none :: (List.cons (Option.some (SV.int (IntKind.i64) (s.x14))) (none :: (none :: (none :: (none :: (none :: (none :: (none :: (none :: (none :: (none :: (none :: (none :: (none :: (none :: (none :: (none :: (none :: (none :: (none :: (none :: (none :: (none :: (none :: (none :: (none :: (none :: (none :: (none :: (none :: (none :: (none :: (none :: (none :: (none :: (none :: (none :: (none :: (none :: (none :: (none :: (none :: (none :: (none :: (none :: (none :: (none :: (none :: (none :: (none :: (none :: (none :: (none :: (none :: (none :: (none :: (none :: (none :: (none :: (none :: (none :: (none :: (none :: (none :: (none :: (none :: (none :: (none :: (none :: (none :: (none :: (none :: (none :: (none :: (none :: (none :: (none :: (none :: (none :: (none :: (none :: (none :: (none :: (none :: (none :: (none :: (none :: (none :: (none :: (none :: (none :: (none :: (none :: (none :: (none :: (none :: (none :: (none :: (none :: (none :: (none :: (none :: (none :: (none :: (none :: (none :: (none :: (none :: (none :: (none :: (none :: (none :: (none :: (none :: (none :: (none :: (none :: (none :: (none :: (none :: (none :: (none :: (none :: (none :: (none :: (none :: (none :: (none :: (none :: (none :: (none :: (none :: (none :: (none :: (none :: (none :: (none :: (none :: (none :: (none :: (none :: (none :: (none :: (none :: (none :: (none :: (none :: (none :: (none :: (none :: (none :: (none :: (none :: (none :: (none :: (none :: (none :: (none :: (none :: (none :: (none :: (none :: (none :: (none :: (none :: (none :: (none :: (none :: (none :: (none :: (none :: (none :: (none :: (none :: (none :: (none :: (none :: (none :: (none :: (none :: (none :: (none :: (none :: (none :: (none :: (none :: (none :: (none :: (none :: (none :: (none :: (none :: (none :: (none :: (none :: (none :: (none :: (none :: (none :: (none :: (none :: (none :: (none :: (none :: (none :: (none :: [])))))))))))))))))))))))))))))))))))))))))))))))))))))))))))))))))))))))))))))))))))))))))))))))))))))))))))))))))))))))))))))))))))))))))))))))))))))))))))))))))))))))))))))))))))))))))))))))))))))))))))))))))))))))))))) (List.cons (HO.row ((27 : Nat)) ((2 : Nat)) (p.N0) (fun j => (List.cons (SV.int (IntKind.u64) (p.F0_0 j)) (List.cons (SV.int (IntKind.u64) (p.F0_1 j)) [])))) [])))) (Tr.need (e44_2_2 p s) (Tr.need (e44_2_3 p s) (Tr.need (e44_2_4 p s) (Tr.leaf (Rs.on (S44_2.mk ((e44_2_5 p s)) ((e44_2_6 p s)))))))))
noncomputable def r44_2 (p : P44_2) (s : S44_2) : Tr (Rs th.R S44_2) := (Tr.ite (e44_2_0 p s) (Tr.leaf (Rs.out (Ex.exit ((4 : Nat))) (List.cons (Option.some (SV.slc ((0:Nat)) ((2 : Nat)) ((0:Nat)) (p.n0))) (none :: (List.cons (Option.some (SV.int (IntKind.i64) (p.x2))) (none :: (none :: (none :: (none :: (none :: (none :: (none :: (none :: (none :: (none :: (none :: (List.cons (Option.some (SV.int (IntKind.i64) (s.x14))) (none :: (none :: (none :: (none :: (none :: (none :: (none :: (none :: (none :: (none :: (none :: (none :: (none :: (none :: (none :: (none :: (none :: (none :: (none :: (none :: (none :: (none :: (none :: (none :: (none :: (none :: (none :: (none :: (none :: (none :: (none :: (none :: (none :: (none :: (none :: (none :: (none :: (none :: (none :: (none :: (none :: (none :: (none :: (none :: (none :: (none :: (none :: (none :: (none :: (none :: (none :: (none :: (none :: (none :: (none :: (none :: (none :: (none :: (none :: (none :: (none :: (none :: (none :: (none :: (none :: (none :: (none :: (none :: (none :: (none :: (none :: (none :: (none :: (none :: (none :: (none :: (none :: (none :: (none :: (none :: (none :: (none :: (none :: (none :: (none :: (none :: (none :: (none :: (none :: (none :: (none :: (none :: (none :: (none :: (none :: (none :: (none :: (none :: (none :: (none :: (none :: (none :: (none :: (none :: (none :: (none :: (none :: (none :: (none :: (none :: (none :: (none :: (none :: (none :: (none :: (none :: (none :: (none :: (none :: (none :: (none :: (none :: (none :: (none :: (none :: (none :: (none :: (none :: (none :: (none :: (none :: (none :: (none :: (none :: (none :: (none :: (none :: (none :: (none :: (none :: (none :: (none :: (none :: (none :: (none :: (none :: (none :: (none :: (none :: (none :: (none :: (none :: (none :: (none :: (none :: (none :: (none :: (none :: (none :: (none :: (none :: (none :: (none :: (none :: (none :: (none :: (none :: (none :: (none :: (none :: (none :: (none :: (none :: (none :: (none :: (none :: (none :: (none :: (none :: (none :: (none :: (none :: (none :: (none :: (none :: (none :: (none :: (none :: (none :: (none :: (none :: (none :: (none :: (none :: (none :: (none :: (none :: (none :: (none :: (none :: (none :: (none :: (none :: (none :: (none :: [])))))))))))))))))))))))))))))))))))))))))))))))))))))))))))))))))))))))))))))))))))))))))))))))))))))))))))))))))))))))))))))))))))))))))))))))))))))))))))))))))))))))))))))))))))))))))))))))))))))))))))))))))))))))))))) (List.cons (HO.row ((27 : Nat)) ((2 : Nat)) (p.N0) (fun j => (List.cons (SV.int (IntKind.u64) (p.F0_0 j)) (List.cons (SV.int (IntKind.u64) (p.F0_1 j)) [])))) []))) (Tr.need (e44_2_3 p s) (Tr.leaf (Rs.on (S44_2.mk ((e44_2_5 p s)) ((e44_2_6 p s)))))))
noncomputable def E44_2 : St th.R → Out th := evCode th Try.prog (auto th Try.prog nice43n [] 20) (autoH [] [] [] [999998] : Hints th) (lpAt Try.prog 44 2)
theorem B44_2 : CodeSound th Try.prog (lpAt Try.prog 44 2) E44_2 := evCode_sound (T := th) (P := Try.prog) (tbl := (auto th Try.prog nice43n [] 20)) (auto_sound (nice := nice43n) (us := []) nok43n 20) (autoH [] [] [] [999998] : Hints th) _ (LoopsOk_mem (fun _ => rfl) _ fun b hb L hL => by cases hL)
noncomputable def L44_2 : St th.R → Out th := loopL d44_2 ofV44_2 r44_2
theorem h1_44_2 (p : P44_2) (s : S44_2) : bld d44_2.tm (toV44_2 p s) = some (I44_2 p s) := by kernel_rfl
theorem h2_44_2 (l : List (Vl th.R)) (p : P44_2) (s : S44_2) (h : ofV44_2 l = some (p, s)) : l = toV44_2 p s := by
  unfold ofV44_2 at h
  split at h
  · cases h; rfl
  · cases h
theorem h3_44_2 (p : P44_2) (s : S44_2) : cvE d44_2 (E44_2 (I44_2 p s)) = some ((rf44_2 p s).map (Rs.map (toV44_2 p))) := by kernel_rfl
theorem h3g_44_2 (p : P44_2) (s : S44_2) : (rf44_2 p s).get = (r44_2 p s).get := by kernel_rfl
theorem h4_44_2 (p : P44_2) (s s1 : S44_2) : outH d44_2.dirt d44_2.n0 (r44_2 p s) = repH (maskH d44_2.dirt 0 d44_2.n0 (I44_2 p s1).heap) (r44_2 p s) := by kernel_rfl
theorem ls44_2 : CodeSound th Try.prog (.loop (lpAt Try.prog 44 2)) L44_2 := loopL_sound B44_2 d44_2 I44_2 toV44_2 (by kernel_rfl) h1_44_2 h2_44_2
  (fun p s => ⟨(rf44_2 p s).map (Rs.map (toV44_2 p)), h3_44_2 p s, fun h => by
    rw [Tr.map_ok]
    unfold r44_2 at h; unfold rf44_2
    simp only [Tr.ok, n_e44_2_1, n_e44_2_2, n_e44_2_4, true_and, and_true, forall_const, implies_true] at h ⊢
    try exact h, by rw [Tr.map_get, h3g_44_2 p s]⟩) h4_44_2
structure P44_3 where
  n0 : Nat
  x14 : Int
  N0 : Nat
structure S44_3 where
  x17 : Int
  F0_0 : Nat → Int
  F0_1 : Nat → Int
instance : Inhabited S44_3 := ⟨⟨0, fun _ => 0, fun _ => 0⟩⟩
def I44_3 (p : P44_3) (s : S44_3) : St th.R := ⟨[some (.slc 0 2 0 p.n0), none, none, none, none, none, none, none, none, none, none, none, none, none, some (.int .i64 p.x14), none, none, some (.int .i64 s.x17), none, none, none, none, none, none, none, none, none, none, none, none, none, none, none, none, none, none, none, none, none, none, none, none, none, none, none, none, none, none, none, none, none, none, none, none, none, none, none, none, none, none, none, none, none, none, none, none, none, none, none, none, none, none, none, none, none, none, none, none, none, none, none, none, none, none, none, none, none, none, none, none, none, none, none, none, none, none, none, none, none, none, none, none, none, none, none, none, none, none, none, none, none, none, none, none, none, none, none, none, none, none, none, none, none, none, none, none, none, none, none, none, none, none, none, none, none, none, none, none, none, none, none, none, none, none, none, none, none, none, none, none, none, none, none, none, none, none, none, none, none, none, none, none, none, none, none, none, none, none, none, none, none, none, none, none, none, none, none, none, none, none, none, none, none, none, none, none, none, none, none, none, none, none, none, none, none, none, none, none, none, none, none, none, none, none, none, none, none, none, none, none, none, none, none, none, none, none, none, none, none, none], [.row 27 2 p.N0 (fun j => [.int .u64 (s.F0_0 j), .int .u64 (s.F0_1 j)])], [], []⟩
def d44_3 : Lp := ⟨⟨220, [(0, .slc0 0 2), (14, .int .i64), (17, .int .i64)], [.rowc 27 [.int .u64, .int .u64]]⟩, [], 1, [0], [], []⟩
def toV44_3 (p : P44_3) (s : S44_3) : List (Vl th.R) := [.n p.n0, .i p.x14, .i s.x17, .n p.N0, .c s.F0_0, .c s.F0_1]
def ofV44_3 : List (Vl th.R) → Option (P44_3 × S44_3)
  | [.n n0, .i x14, .i x17, .n N0, .c F0_0, .c F0_1] => some (⟨n0, x14, N0⟩, ⟨x17, F0_0, F0_1⟩)
  | _ => none
noncomputable def e44_3_0 (p : P44_3) (s : S44_3) : (Bool) := cnd (decide (s.x17 > p.x14)) false true
noncomputable def e44_3_1 (p : P44_3) (s : S44_3) : (Prop) := ∀ (i : Nat), scpL (0:Nat) ((fun (j : Nat) => [SV.int IntKind.u64 (s.F0_0 j), SV.int IntKind.u64 (s.F0_1 j)]) i) = true
noncomputable def e44_3_2 (p : P44_3) (s : S44_3) : (Prop) := (true = true → (0 : Int) ≤ IntKind.i64.wrap (s.x17 - (1 : Int)) ∧ IntKind.i64.wrap (s.x17 - (1 : Int)) < (↑p.n0 : Int)) ∧ (true = true → (0:Nat) + (IntKind.i64.wrap (s.x17 - (1 : Int))).toNat < p.N0) ∧ (true = true → (0 : Int) ≤ s.x17 ∧ s.x17 < (↑p.n0 : Int)) ∧ (true = true → (0:Nat) + s.x17.toNat < p.N0) ∧ (true = true → (0 : Int) ≤ s.x17 ∧ s.x17 < (↑p.n0 : Int)) ∧ ((0:Nat) + s.x17.toNat < p.N0 ∧ (2 : Nat) = (2 : Nat)) ∧ (true = true → (0 : Int) ≤ IntKind.i64.wrap (s.x17 - (1 : Int)) ∧ IntKind.i64.wrap (s.x17 - (1 : Int)) < (↑p.n0 : Int)) ∧ (0:Nat) + (IntKind.i64.wrap (s.x17 - (1 : Int))).toNat < p.N0 ∧ (2 : Nat) = (2 : Nat)
noncomputable def e44_3_3 (p : P44_3) (s : S44_3) : (Prop) := (∀ (i : Nat), scpL (0:Nat) ((fun (j : Nat) => rowSet (j.beq ((0:Nat) + (IntKind.i64.wrap (s.x17 - (1 : Int))).toNat)) (splice ((fun (j : Nat) => rowSet (j.beq ((0:Nat) + s.x17.toNat)) (splice ((fun (j : Nat) => [SV.int IntKind.u64 (s.F0_0 j), SV.int IntKind.u64 (s.F0_1 j)]) ((0:Nat) + s.x17.toNat)) (0:Nat) (SV.agg (List.take (2 : Nat) (List.drop (0:Nat) ((fun (j : Nat) => [SV.int IntKind.u64 (s.F0_0 j), SV.int IntKind.u64 (s.F0_1 j)]) ((0:Nat) + (IntKind.i64.wrap (s.x17 - (1 : Int))).toNat))))).cells) ((fun (j : Nat) => [SV.int IntKind.u64 (s.F0_0 j), SV.int IntKind.u64 (s.F0_1 j)]) j)) ((0:Nat) + (IntKind.i64.wrap (s.x17 - (1 : Int))).toNat)) (0:Nat) (SV.agg (List.take (2 : Nat) (List.drop (0:Nat) ((fun (j : Nat) => [SV.int IntKind.u64 (s.F0_0 j), SV.int IntKind.u64 (s.F0_1 j)]) ((0:Nat) + s.x17.toNat))))).cells) ((fun (j : Nat) => rowSet (j.beq ((0:Nat) + s.x17.toNat)) (splice ((fun (j : Nat) => [SV.int IntKind.u64 (s.F0_0 j), SV.int IntKind.u64 (s.F0_1 j)]) ((0:Nat) + s.x17.toNat)) (0:Nat) (SV.agg (List.take (2 : Nat) (List.drop (0:Nat) ((fun (j : Nat) => [SV.int IntKind.u64 (s.F0_0 j), SV.int IntKind.u64 (s.F0_1 j)]) ((0:Nat) + (IntKind.i64.wrap (s.x17 - (1 : Int))).toNat))))).cells) ((fun (j : Nat) => [SV.int IntKind.u64 (s.F0_0 j), SV.int IntKind.u64 (s.F0_1 j)]) j)) j)) i) = true) ∧ ∀ (i : Nat), i < p.N0 → (fun (j : Nat) => rowSet (j.beq ((0:Nat) + (IntKind.i64.wrap (s.x17 - (1 : Int))).toNat)) (splice ((fun (j : Nat) => rowSet (j.beq ((0:Nat) + s.x17.toNat)) (splice ((fun (j : Nat) => [SV.int IntKind.u64 (s.F0_0 j), SV.int IntKind.u64 (s.F0_1 j)]) ((0:Nat) + s.x17.toNat)) (0:Nat) (SV.agg (List.take (2 : Nat) (List.drop (0:Nat) ((fun (j : Nat) => [SV.int IntKind.u64 (s.F0_0 j), SV.int IntKind.u64 (s.F0_1 j)]) ((0:Nat) + (IntKind.i64.wrap (s.x17 - (1 : Int))).toNat))))).cells) ((fun (j : Nat) => [SV.int IntKind.u64 (s.F0_0 j), SV.int IntKind.u64 (s.F0_1 j)]) j)) ((0:Nat) + (IntKind.i64.wrap (s.x17 - (1 : Int))).toNat)) (0:Nat) (SV.agg (List.take (2 : Nat) (List.drop (0:Nat) ((fun (j : Nat) => [SV.int IntKind.u64 (s.F0_0 j), SV.int IntKind.u64 (s.F0_1 j)]) ((0:Nat) + s.x17.toNat))))).cells) ((fun (j : Nat) => rowSet (j.beq ((0:Nat) + s.x17.toNat)) (splice ((fun (j : Nat) => [SV.int IntKind.u64 (s.F0_0 j), SV.int IntKind.u64 (s.F0_1 j)]) ((0:Nat) + s.x17.toNat)) (0:Nat) (SV.agg (List.take (2 : Nat) (List.drop (0:Nat) ((fun (j : Nat) => [SV.int IntKind.u64 (s.F0_0 j), SV.int IntKind.u64 (s.F0_1 j)]) ((0:Nat) + (IntKind.i64.wrap (s.x17 - (1 : Int))).toNat))))).cells) ((fun (j : Nat) => [SV.int IntKind.u64 (s.F0_0 j), SV.int IntKind.u64 (s.F0_1 j)]) j)) j)) i = elC (fun (j : Nat) => rowSet (j.beq ((0:Nat) + (IntKind.i64.wrap (s.x17 - (1 : Int))).toNat)) (splice ((fun (j : Nat) => rowSet (j.beq ((0:Nat) + s.x17.toNat)) (splice ((fun (j : Nat) => [SV.int IntKind.u64 (s.F0_0 j), SV.int IntKind.u64 (s.F0_1 j)]) ((0:Nat) + s.x17.toNat)) (0:Nat) (SV.agg (List.take (2 : Nat) (List.drop (0:Nat) ((fun (j : Nat) => [SV.int IntKind.u64 (s.F0_0 j), SV.int IntKind.u64 (s.F0_1 j)]) ((0:Nat) + (IntKind.i64.wrap (s.x17 - (1 : Int))).toNat))))).cells) ((fun (j : Nat) => [SV.int IntKind.u64 (s.F0_0 j), SV.int IntKind.u64 (s.F0_1 j)]) j)) ((0:Nat) + (IntKind.i64.wrap (s.x17 - (1 : Int))).toNat)) (0:Nat) (SV.agg (List.take (2 : Nat) (List.drop (0:Nat) ((fun (j : Nat) => [SV.int IntKind.u64 (s.F0_0 j), SV.int IntKind.u64 (s.F0_1 j)]) ((0:Nat) + s.x17.toNat))))).cells) ((fun (j : Nat) => rowSet (j.beq ((0:Nat) + s.x17.toNat)) (splice ((fun (j : Nat) => [SV.int IntKind.u64 (s.F0_0 j), SV.int IntKind.u64 (s.F0_1 j)]) ((0:Nat) + s.x17.toNat)) (0:Nat) (SV.agg (List.take (2 : Nat) (List.drop (0:Nat) ((fun (j : Nat) => [SV.int IntKind.u64 (s.F0_0 j), SV.int IntKind.u64 (s.F0_1 j)]) ((0:Nat) + (IntKind.i64.wrap (s.x17 - (1 : Int))).toNat))))).cells) ((fun (j : Nat) => [SV.int IntKind.u64 (s.F0_0 j), SV.int IntKind.u64 (s.F0_1 j)]) j)) j)) (0:Nat) [Ck.int IntKind.u64, Ck.int IntKind.u64] i
noncomputable def e44_3_4 (p : P44_3) (s : S44_3) : (Int) := IntKind.i64.wrap (s.x17 - (1 : Int))
noncomputable def e44_3_5 (p : P44_3) (s : S44_3) : Nat → (Int) := fun j => cnd (j.beq ((0:Nat) + (IntKind.i64.wrap (s.x17 - (1 : Int))).toNat)) (s.F0_0 ((0:Nat) + s.x17.toNat)) (cnd (j.beq ((0:Nat) + s.x17.toNat)) (s.F0_0 ((0:Nat) + (IntKind.i64.wrap (s.x17 - (1 : Int))).toNat)) (s.F0_0 j))
noncomputable def e44_3_6 (p : P44_3) (s : S44_3) : Nat → (Int) := fun j => cnd (j.beq ((0:Nat) + (IntKind.i64.wrap (s.x17 - (1 : Int))).toNat)) (s.F0_1 ((0:Nat) + s.x17.toNat)) (cnd (j.beq ((0:Nat) + s.x17.toNat)) (s.F0_1 ((0:Nat) + (IntKind.i64.wrap (s.x17 - (1 : Int))).toNat)) (s.F0_1 j))
theorem n_e44_3_1 (p : P44_3) (s : S44_3) : e44_3_1 p s := by
  unfold e44_3_1
  first
    | (intros; rfl)
    | (intro i; rfl)
    | (intro i _; rfl)
    | (intro _ i; rfl)
    | (intro _ i _; rfl)
    | (refine ⟨?_, ?_⟩ <;> intro i <;> rfl)
    | (refine ⟨?_, ?_, ?_⟩ <;> intro i <;> rfl)
    | (refine ⟨?_, ?_⟩ <;> intro i _ <;> rfl)
    | (repeat' apply And.intro) <;> first | (intro i; rfl) | (intro i _; rfl) | (intro i h; exact absurd h (Nat.not_lt_zero i)) | (intro i; exact scpL_rowSet (by rfl) (by rfl)) | (intro i; exact scpL_rowEl (by kernel_rfl) _)
    | (intros; (repeat' apply And.intro) <;> intros <;> first | rfl | (exact absurd (by assumption) (Nat.not_lt_zero _)))
    | omega
    | decide
theorem n_e44_3_3 (p : P44_3) (s : S44_3) : e44_3_3 p s := by
  unfold e44_3_3
  first
    | (intros; rfl)
    | (intro i; rfl)
    | (intro i _; rfl)
    | (intro _ i; rfl)
    | (intro _ i _; rfl)
    | (refine ⟨?_, ?_⟩ <;> intro i <;> rfl)
    | (refine ⟨?_, ?_, ?_⟩ <;> intro i <;> rfl)
    | (refine ⟨?_, ?_⟩ <;> intro i _ <;> rfl)
    | (repeat' apply And.intro) <;> first | (intro i; rfl) | (intro i _; rfl) | (intro i h; exact absurd h (Nat.not_lt_zero i)) | (intro i; exact scpL_rowSet (by rfl) (by rfl)) | (intro i; exact scpL_rowEl (by kernel_rfl) _)
    | (intros; (repeat' apply And.intro) <;> intros <;> first | rfl | (exact absurd (by assumption) (Nat.not_lt_zero _)))
    | omega
    | decide
noncomputable def rf44_3 (p : P44_3) (s : S44_3) : Tr (Rs th.R S44_3) := (Tr.ite (e44_3_0 p s) (Tr.need (e44_3_1 p s) (Tr.leaf (Rs.out (Ex.exit ((6 : Nat))) (none :: (none :: (none :: (none :: (none :: (none :: (none :: (none :: (none :: (none :: (none :: (none :: (none :: (none :: (none :: (none :: (none :: (none :: (none :: (none :: (none :: (none :: (none :: (none :: (none :: (none :: (none :: (none :: (none :: (none :: (none :: (none :: (none :: (none :: (none :: (none :: (none :: (none :: (none :: (none :: (none :: (none :: (none :: (none :: (none :: (none :: (none :: (none :: (none :: (none :: (none :: (none :: (none :: (none :: (none :: (none :: (none :: (none :: (none :: (none :: (none :: (none :: (none :: (none :: (none :: (none :: (none :: (none :: (none :: (none :: (none :: (none :: (none :: (none :: (none :: (none :: (none :: (none :: (none :: (none :: (none :: (none :: (none :: (none :: (none :: (none :: (none :: (none :: (none :: (none :: (none :: (none :: (none :: (none :: (none :: (none :: (none :: (none :: (none :: (none :: (none :: (none :: (none :: (none :: (none :: (none :: (none :: (none :: (none :: (none :: (none :: (none :: (none :: (none :: (none :: (none :: (none :: (none :: (none :: (none :: (none :: (none :: (none :: (none :: (none :: (none :: (none :: (none :: (none :: (none :: (none :: (none :: (none :: (none :: (none :: (none :: (none :: (none :: (none :: (none :: (none :: (none :: (none :: (none :: (none :: (none :: (none :: (none :: (none :: (none :: (none :: (none :: (none :: (none :: (none :: (none :: (none :: (none :: (none :: (none :: (none :: (none :: (none :: (none :: (none :: (none :: (none :: (none :: (none :: (none :: (none :: (none :: (none :: (none :: (none :: (none :: (none :: (none :: (none :: (none :: (none :: (none :: (none :: (none :: (none :: (none :: (none :: (none :: (none :: (none :: (none :: (none :: (none :: (none :: (none :: (none :: (none :: (none :: (none :: (none :: (none :: (none :: (none :: (none :: (none :: (none :: (none :: (none :: (none :: (none :: (none :: (none :: (none :: (none :: (none :: (none :: (none :: (none :: (none :: (none :: [])))))))))))))))))))))))))))))))))))))))))))))))))))))))))))))))))))))))))))))))))))))))))))))))))))))))))))))))))))))))))))))))))))))))))))))))))))))))))))))))))))))))))))))))))))))))))))))))))))))))))))))))))))))))))))) (List.cons (HO.row ((27 : Nat)) ((2 : Nat)) (p.N0) (fun j => (List.cons (SV.int (IntKind.u64) (s.F0_0 j)) (List.cons (SV.int (IntKind.u64) (s.F0_1 j)) [])))) [])))) (Tr.need (e44_3_2 p s) (Tr.need (e44_3_3 p s) (Tr.leaf (Rs.on (S44_3.mk ((e44_3_4 p s)) ((fun j => (e44_3_5 p s j))) ((fun j => (e44_3_6 p s j)))))))))
noncomputable def r44_3 (p : P44_3) (s : S44_3) : Tr (Rs th.R S44_3) := (Tr.ite (e44_3_0 p s) (Tr.leaf (Rs.out (Ex.exit ((6 : Nat))) (none :: (none :: (none :: (none :: (none :: (none :: (none :: (none :: (none :: (none :: (none :: (none :: (none :: (none :: (none :: (none :: (none :: (none :: (none :: (none :: (none :: (none :: (none :: (none :: (none :: (none :: (none :: (none :: (none :: (none :: (none :: (none :: (none :: (none :: (none :: (none :: (none :: (none :: (none :: (none :: (none :: (none :: (none :: (none :: (none :: (none :: (none :: (none :: (none :: (none :: (none :: (none :: (none :: (none :: (none :: (none :: (none :: (none :: (none :: (none :: (none :: (none :: (none :: (none :: (none :: (none :: (none :: (none :: (none :: (none :: (none :: (none :: (none :: (none :: (none :: (none :: (none :: (none :: (none :: (none :: (none :: (none :: (none :: (none :: (none :: (none :: (none :: (none :: (none :: (none :: (none :: (none :: (none :: (none :: (none :: (none :: (none :: (none :: (none :: (none :: (none :: (none :: (none :: (none :: (none :: (none :: (none :: (none :: (none :: (none :: (none :: (none :: (none :: (none :: (none :: (none :: (none :: (none :: (none :: (none :: (none :: (none :: (none :: (none :: (none :: (none :: (none :: (none :: (none :: (none :: (none :: (none :: (none :: (none :: (none :: (none :: (none :: (none :: (none :: (none :: (none :: (none :: (none :: (none :: (none :: (none :: (none :: (none :: (none :: (none :: (none :: (none :: (none :: (none :: (none :: (none :: (none :: (none :: (none :: (none :: (none :: (none :: (none :: (none :: (none :: (none :: (none :: (none :: (none :: (none :: (none :: (none :: (none :: (none :: (none :: (none :: (none :: (none :: (none :: (none :: (none :: (none :: (none :: (none :: (none :: (none :: (none :: (none :: (none :: (none :: (none :: (none :: (none :: (none :: (none :: (none :: (none :: (none :: (none :: (none :: (none :: (none :: (none :: (none :: (none :: (none :: (none :: (none :: (none :: (none :: (none :: (none :: (none :: (none :: (none :: (none :: (none :: (none :: (none :: (none :: [])))))))))))))))))))))))))))))))))))))))))))))))))))))))))))))))))))))))))))))))))))))))))))))))))))))))))))))))))))))))))))))))))))))))))))))))))))))))))))))))))))))))))))))))))))))))))))))))))))))))))))))))))))))))))))) (List.cons (HO.row ((27 : Nat)) ((2 : Nat)) (p.N0) (fun j => (List.cons (SV.int (IntKind.u64) (s.F0_0 j)) (List.cons (SV.int (IntKind.u64) (s.F0_1 j)) [])))) []))) (Tr.need (e44_3_2 p s) (Tr.leaf (Rs.on (S44_3.mk ((e44_3_4 p s)) ((fun j => (e44_3_5 p s j))) ((fun j => (e44_3_6 p s j))))))))
noncomputable def E44_3 : St th.R → Out th := evCode th Try.prog (auto th Try.prog nice43n [] 20) (autoH [] [] [] [999998] : Hints th) (lpAt Try.prog 44 3)
theorem B44_3 : CodeSound th Try.prog (lpAt Try.prog 44 3) E44_3 := evCode_sound (T := th) (P := Try.prog) (tbl := (auto th Try.prog nice43n [] 20)) (auto_sound (nice := nice43n) (us := []) nok43n 20) (autoH [] [] [] [999998] : Hints th) _ (LoopsOk_mem (fun _ => rfl) _ fun b hb L hL => by cases hL)
noncomputable def L44_3 : St th.R → Out th := loopL d44_3 ofV44_3 r44_3
theorem h1_44_3 (p : P44_3) (s : S44_3) : bld d44_3.tm (toV44_3 p s) = some (I44_3 p s) := by kernel_rfl
theorem h2_44_3 (l : List (Vl th.R)) (p : P44_3) (s : S44_3) (h : ofV44_3 l = some (p, s)) : l = toV44_3 p s := by
  unfold ofV44_3 at h
  split at h
  · cases h; rfl
  · cases h
theorem h3_44_3 (p : P44_3) (s : S44_3) : cvE d44_3 (E44_3 (I44_3 p s)) = some ((rf44_3 p s).map (Rs.map (toV44_3 p))) := by kernel_rfl
theorem h3g_44_3 (p : P44_3) (s : S44_3) : (rf44_3 p s).get = (r44_3 p s).get := by kernel_rfl
theorem h4_44_3 (p : P44_3) (s s1 : S44_3) : outH d44_3.dirt d44_3.n0 (r44_3 p s) = repH (maskH d44_3.dirt 0 d44_3.n0 (I44_3 p s1).heap) (r44_3 p s) := by kernel_rfl
theorem ls44_3 : CodeSound th Try.prog (.loop (lpAt Try.prog 44 3)) L44_3 := loopL_sound B44_3 d44_3 I44_3 toV44_3 (by kernel_rfl) h1_44_3 h2_44_3
  (fun p s => ⟨(rf44_3 p s).map (Rs.map (toV44_3 p)), h3_44_3 p s, fun h => by
    rw [Tr.map_ok]
    unfold r44_3 at h; unfold rf44_3
    simp only [Tr.ok, n_e44_3_1, n_e44_3_3, true_and, and_true, forall_const, implies_true] at h ⊢
    try exact h, by rw [Tr.map_get, h3g_44_3 p s]⟩) h4_44_3
structure P44_4 where
  n0 : Nat
  x1 : Int
  x2 : Int
  x3 : Int
  x18 : Int
  x19 : Int
  x22 : Int
  N0 : Nat
  F0_0 : Nat → Int
  F0_1 : Nat → Int
structure S44_4 where
  x20 : Int
  x21 : Int
instance : Inhabited S44_4 := ⟨⟨0, 0⟩⟩
def I44_4 (p : P44_4) (s : S44_4) : St th.R := ⟨[some (.slc 0 2 0 p.n0), some (.int .i64 p.x1), some (.int .i64 p.x2), some (.int .i64 p.x3), some (.fn 33 []), none, none, none, none, none, none, none, none, none, none, none, none, none, some (.int .i64 p.x18), some (.int .i64 p.x19), some (.int .i64 s.x20), some (.int .i64 s.x21), some (.int .i64 p.x22), none, none, none, none, none, none, none, none, none, none, none, none, none, none, none, none, none, none, none, none, none, none, none, none, none, none, none, none, none, none, none, none, none, none, none, none, none, none, none, none, none, none, none, none, none, none, none, none, none, none, none, none, none, none, none, none, none, none, none, none, none, none, none, none, none, none, none, none, none, none, none, none, none, none, none, none, none, none, none, none, none, none, none, none, none, none, none, none, none, none, none, none, none, none, none, none, none, none, none, none, none, none, none, none, none, none, none, none, none, none, none, none, none, none, none, none, none, none, none, none, none, none, none, none, none, none, none, none, none, none, none, none, none, none, none, none, none, none, none, none, none, none, none, none, none, none, none, none, none, none, none, none, none, none, none, none, none, none, none, none, none, none, none, none, none, none, none, none, none, none, none, none, none, none, none, none, none, none, none, none, none, none, none, none, none, none, none, none, none, none, none, none, none, none, none, none, none], [.row 27 2 p.N0 (fun j => [.int .u64 (p.F0_0 j), .int .u64 (p.F0_1 j)])], [], []⟩
def d44_4 : Lp := ⟨⟨220, [(0, .slc0 0 2), (1, .int .i64), (2, .int .i64), (3, .int .i64), (4, .fn 33 []), (18, .int .i64), (19, .int .i64), (20, .int .i64), (21, .int .i64), (22, .int .i64)], [.rowc 27 [.int .u64, .int .u64]]⟩, [], 1, [], [0, 1, 2, 3, 4, 18, 19, 20, 182, 183, 184, 196, 197, 198, 210, 211, 212], []⟩
def toV44_4 (p : P44_4) (s : S44_4) : List (Vl th.R) := [.n p.n0, .i p.x1, .i p.x2, .i p.x3, .i p.x18, .i p.x19, .i s.x20, .i s.x21, .i p.x22, .n p.N0, .c p.F0_0, .c p.F0_1]
def ofV44_4 : List (Vl th.R) → Option (P44_4 × S44_4)
  | [.n n0, .i x1, .i x2, .i x3, .i x18, .i x19, .i x20, .i x21, .i x22, .n N0, .c F0_0, .c F0_1] => some (⟨n0, x1, x2, x3, x18, x19, x22, N0, F0_0, F0_1⟩, ⟨x20, x21⟩)
  | _ => none
noncomputable def e44_4_0 (p : P44_4) (s : S44_4) : (Bool) := cnd (decide (s.x20 < s.x21)) false true
noncomputable def e44_4_1 (p : P44_4) (s : S44_4) : (Prop) := ∀ (i : Nat), scpL (0:Nat) ((fun (j : Nat) => [SV.int IntKind.u64 (p.F0_0 j), SV.int IntKind.u64 (p.F0_1 j)]) i) = true
noncomputable def e44_4_2 (p : P44_4) (s : S44_4) : (Prop) := (0 : Int) ≤ (1 : Int)
noncomputable def e44_4_3 (p : P44_4) (s : S44_4) : (Prop) := (true = true → (0 : Int) ≤ IntKind.i64.wrap (p.x22 - IntKind.i64.wrap ((IntKind.u64.wrap (IntKind.i64.wrap (s.x20 + s.x21))).fdiv (2 : Int))) ∧ IntKind.i64.wrap (p.x22 - IntKind.i64.wrap ((IntKind.u64.wrap (IntKind.i64.wrap (s.x20 + s.x21))).fdiv (2 : Int))) < (↑p.n0 : Int)) ∧ (true = true → (0:Nat) + (IntKind.i64.wrap (p.x22 - IntKind.i64.wrap ((IntKind.u64.wrap (IntKind.i64.wrap (s.x20 + s.x21))).fdiv (2 : Int)))).toNat < p.N0) ∧ (true = true → (0 : Int) ≤ IntKind.i64.wrap ((IntKind.u64.wrap (IntKind.i64.wrap (s.x20 + s.x21))).fdiv (2 : Int)) ∧ IntKind.i64.wrap ((IntKind.u64.wrap (IntKind.i64.wrap (s.x20 + s.x21))).fdiv (2 : Int)) < (↑p.n0 : Int)) ∧ (true = true → (0:Nat) + (IntKind.i64.wrap ((IntKind.u64.wrap (IntKind.i64.wrap (s.x20 + s.x21))).fdiv (2 : Int))).toNat < p.N0)
noncomputable def e44_4_4 (p : P44_4) (s : S44_4) : (Prop) := (∀ (i : Nat), scpL (0:Nat) ((fun (j : Nat) => [SV.int IntKind.u64 (p.F0_0 j), SV.int IntKind.u64 (p.F0_1 j)]) i) = true) ∧ ∀ (i : Nat), i < p.N0 → (fun (j : Nat) => [SV.int IntKind.u64 (p.F0_0 j), SV.int IntKind.u64 (p.F0_1 j)]) i = elC (fun (j : Nat) => [SV.int IntKind.u64 (p.F0_0 j), SV.int IntKind.u64 (p.F0_1 j)]) (0:Nat) [Ck.int IntKind.u64, Ck.int IntKind.u64] i
noncomputable def e44_4_5 (p : P44_4) (s : S44_4) : (Int) := cnd (!decide (f33_1 (p.F0_0 ((0:Nat) + (IntKind.i64.wrap (p.x22 - IntKind.i64.wrap ((IntKind.u64.wrap (IntKind.i64.wrap (s.x20 + s.x21))).fdiv (2 : Int)))).toNat)) (p.F0_1 ((0:Nat) + (IntKind.i64.wrap (p.x22 - IntKind.i64.wrap ((IntKind.u64.wrap (IntKind.i64.wrap (s.x20 + s.x21))).fdiv (2 : Int)))).toNat)) (p.F0_0 ((0:Nat) + (IntKind.i64.wrap ((IntKind.u64.wrap (IntKind.i64.wrap (s.x20 + s.x21))).fdiv (2 : Int))).toNat)) (p.F0_1 ((0:Nat) + (IntKind.i64.wrap ((IntKind.u64.wrap (IntKind.i64.wrap (s.x20 + s.x21))).fdiv (2 : Int))).toNat)) < (0 : Int))) (IntKind.i64.wrap (IntKind.i64.wrap ((IntKind.u64.wrap (IntKind.i64.wrap (s.x20 + s.x21))).fdiv (2 : Int)) + (1 : Int))) s.x20
noncomputable def e44_4_6 (p : P44_4) (s : S44_4) : (Int) := cnd (!decide (f33_1 (p.F0_0 ((0:Nat) + (IntKind.i64.wrap (p.x22 - IntKind.i64.wrap ((IntKind.u64.wrap (IntKind.i64.wrap (s.x20 + s.x21))).fdiv (2 : Int)))).toNat)) (p.F0_1 ((0:Nat) + (IntKind.i64.wrap (p.x22 - IntKind.i64.wrap ((IntKind.u64.wrap (IntKind.i64.wrap (s.x20 + s.x21))).fdiv (2 : Int)))).toNat)) (p.F0_0 ((0:Nat) + (IntKind.i64.wrap ((IntKind.u64.wrap (IntKind.i64.wrap (s.x20 + s.x21))).fdiv (2 : Int))).toNat)) (p.F0_1 ((0:Nat) + (IntKind.i64.wrap ((IntKind.u64.wrap (IntKind.i64.wrap (s.x20 + s.x21))).fdiv (2 : Int))).toNat)) < (0 : Int))) s.x21 (IntKind.i64.wrap ((IntKind.u64.wrap (IntKind.i64.wrap (s.x20 + s.x21))).fdiv (2 : Int)))
theorem n_e44_4_1 (p : P44_4) (s : S44_4) : e44_4_1 p s := by
  unfold e44_4_1
  first
    | (intros; rfl)
    | (intro i; rfl)
    | (intro i _; rfl)
    | (intro _ i; rfl)
    | (intro _ i _; rfl)
    | (refine ⟨?_, ?_⟩ <;> intro i <;> rfl)
    | (refine ⟨?_, ?_, ?_⟩ <;> intro i <;> rfl)
    | (refine ⟨?_, ?_⟩ <;> intro i _ <;> rfl)
    | (repeat' apply And.intro) <;> first | (intro i; rfl) | (intro i _; rfl) | (intro i h; exact absurd h (Nat.not_lt_zero i)) | (intro i; exact scpL_rowSet (by rfl) (by rfl)) | (intro i; exact scpL_rowEl (by kernel_rfl) _)
    | (intros; (repeat' apply And.intro) <;> intros <;> first | rfl | (exact absurd (by assumption) (Nat.not_lt_zero _)))
    | omega
    | decide
theorem n_e44_4_2 (p : P44_4) (s : S44_4) : e44_4_2 p s := by
  unfold e44_4_2
  first
    | (intros; rfl)
    | (intro i; rfl)
    | (intro i _; rfl)
    | (intro _ i; rfl)
    | (intro _ i _; rfl)
    | (refine ⟨?_, ?_⟩ <;> intro i <;> rfl)
    | (refine ⟨?_, ?_, ?_⟩ <;> intro i <;> rfl)
    | (refine ⟨?_, ?_⟩ <;> intro i _ <;> rfl)
    | (repeat' apply And.intro) <;> first | (intro i; rfl) | (intro i _; rfl) | (intro i h; exact absurd h (Nat.not_lt_zero i)) | (intro i; exact scpL_rowSet (by rfl) (by rfl)) | (intro i; exact scpL_rowEl (by kernel_rfl) _)
    | (intros; (repeat' apply And.intro) <;> intros <;> first | rfl | (exact absurd (by assumption) (Nat.not_lt_zero _)))
    | omega
    | decide
theorem n_e44_4_4 (p : P44_4) (s : S44_4) : e44_4_4 p s := by
  unfold e44_4_4
  first
    | (intros; rfl)
    | (intro i; rfl)
    | (intro i _; rfl)
    | (intro _ i; rfl)
    | (intro _ i _; rfl)
    | (refine ⟨?_, ?_⟩ <;> intro i <;> rfl)
    | (refine ⟨?_, ?_, ?_⟩ <;> intro i <;> rfl)
    | (refine ⟨?_, ?_⟩ <;> intro i _ <;> rfl)
    | (repeat' apply And.intro) <;> first | (intro i; rfl) | (intro i _; rfl) | (intro i h; exact absurd h (Nat.not_lt_zero i)) | (intro i; exact scpL_rowSet (by rfl) (by rfl)) | (intro i; exact scpL_rowEl (by kernel_rfl) _)
    | (intros; (repeat' apply And.intro) <;> intros <;> first | rfl | (exact absurd (by assumption) (Nat.not_lt_zero _)))
    | omega
    | decide
noncomputable def rf44_4 (p : P44_4) (s : S44_4) : Tr (Rs th.R S44_4) := (Tr.ite (e44_4_0 p s) (Tr.need (e44_4_1 p s) (Tr.leaf (Rs.out (Ex.exit ((8 : Nat))) (List.cons (Option.some (SV.slc ((0:Nat)) ((2 : Nat)) ((0:Nat)) (p.n0))) (List.cons (Option.some (SV.int (IntKind.i64) (p.x1))) (List.cons (Option.some (SV.int (IntKind.i64) (p.x2))) (List.cons (Option.some (SV.int (IntKind.i64) (p.x3))) (List.cons (Option.some (SV.fn ((33 : Nat)) [])) (none :: (none :: (none :: (none :: (none :: (none :: (none :: (none :: (none :: (none :: (none :: (none :: (none :: (List.cons (Option.some (SV.int (IntKind.i64) (p.x18))) (List.cons (Option.some (SV.int (IntKind.i64) (p.x19))) (List.cons (Option.some (SV.int (IntKind.i64) (s.x20))) (none :: (none :: (none :: (none :: (none :: (none :: (none :: (none :: (none :: (none :: (none :: (none :: (none :: (none :: (none :: (none :: (none :: (none :: (none :: (none :: (none :: (none :: (none :: (none :: (none :: (none :: (none :: (none :: (none :: (none :: (none :: (none :: (none :: (none :: (none :: (none :: (none :: (none :: (none :: (none :: (none :: (none :: (none :: (none :: (none :: (none :: (none :: (none :: (none :: (none :: (none :: (none :: (none :: (none :: (none :: (none :: (none :: (none :: (none :: (none :: (none :: (none :: (none :: (none :: (none :: (none :: (none :: (none :: (none :: (none :: (none :: (none :: (none :: (none :: (none :: (none :: (none :: (none :: (none :: (none :: (none :: (none :: (none :: (none :: (none :: (none :: (none :: (none :: (none :: (none :: (none :: (none :: (none :: (none :: (none :: (none :: (none :: (none :: (none :: (none :: (none :: (none :: (none :: (none :: (none :: (none :: (none :: (none :: (none :: (none :: (none :: (none :: (none :: (none :: (none :: (none :: (none :: (none :: (none :: (none :: (none :: (none :: (none :: (none :: (none :: (none :: (none :: (none :: (none :: (none :: (none :: (none :: (none :: (none :: (none :: (none :: (none :: (none :: (none :: (none :: (none :: (none :: (none :: (none :: (none :: (none :: (none :: (none :: (none :: (none :: (none :: (none :: (none :: (none :: (none :: (none :: (none :: (none :: (none :: (none :: (none :: (none :: (none :: (none :: (none :: (none :: (none :: (none :: (none :: (none :: (none :: (none :: (none :: (none :: (none :: (none :: (none :: (none :: (none :: (none :: (none :: (none :: (none :: (none :: (none :: (none :: (none :: (none :: (none :: (none :: (none :: (none :: (none :: (none :: (none :: (none :: (none :: (none :: (none :: [])))))))))))))))))))))))))))))))))))))))))))))))))))))))))))))))))))))))))))))))))))))))))))))))))))))))))))))))))))))))))))))))))))))))))))))))))))))))))))))))))))))))))))))))))))))))))))))))))))))))))))))))))))))))))))) (List.cons (HO.row ((27 : Nat)) ((2 : Nat)) (p.N0) (fun j => (List.cons (SV.int (IntKind.u64) (p.F0_0 j)) (List.cons (SV.int (IntKind.u64) (p.F0_1 j)) [])))) [])))) (Tr.need (e44_4_2 p s) (Tr.need (e44_4_3 p s) (Tr.need (e44_4_4 p s) (Tr.leaf (Rs.on (S44_4.mk ((e44_4_5 p s)) ((e44_4_6 p s)))))))))
noncomputable def r44_4 (p : P44_4) (s : S44_4) : Tr (Rs th.R S44_4) := (Tr.ite (e44_4_0 p s) (Tr.leaf (Rs.out (Ex.exit ((8 : Nat))) (List.cons (Option.some (SV.slc ((0:Nat)) ((2 : Nat)) ((0:Nat)) (p.n0))) (List.cons (Option.some (SV.int (IntKind.i64) (p.x1))) (List.cons (Option.some (SV.int (IntKind.i64) (p.x2))) (List.cons (Option.some (SV.int (IntKind.i64) (p.x3))) (List.cons (Option.some (SV.fn ((33 : Nat)) [])) (none :: (none :: (none :: (none :: (none :: (none :: (none :: (none :: (none :: (none :: (none :: (none :: (none :: (List.cons (Option.some (SV.int (IntKind.i64) (p.x18))) (List.cons (Option.some (SV.int (IntKind.i64) (p.x19))) (List.cons (Option.some (SV.int (IntKind.i64) (s.x20))) (none :: (none :: (none :: (none :: (none :: (none :: (none :: (none :: (none :: (none :: (none :: (none :: (none :: (none :: (none :: (none :: (none :: (none :: (none :: (none :: (none :: (none :: (none :: (none :: (none :: (none :: (none :: (none :: (none :: (none :: (none :: (none :: (none :: (none :: (none :: (none :: (none :: (none :: (none :: (none :: (none :: (none :: (none :: (none :: (none :: (none :: (none :: (none :: (none :: (none :: (none :: (none :: (none :: (none :: (none :: (none :: (none :: (none :: (none :: (none :: (none :: (none :: (none :: (none :: (none :: (none :: (none :: (none :: (none :: (none :: (none :: (none :: (none :: (none :: (none :: (none :: (none :: (none :: (none :: (none :: (none :: (none :: (none :: (none :: (none :: (none :: (none :: (none :: (none :: (none :: (none :: (none :: (none :: (none :: (none :: (none :: (none :: (none :: (none :: (none :: (none :: (none :: (none :: (none :: (none :: (none :: (none :: (none :: (none :: (none :: (none :: (none :: (none :: (none :: (none :: (none :: (none :: (none :: (none :: (none :: (none :: (none :: (none :: (none :: (none :: (none :: (none :: (none :: (none :: (none :: (none :: (none :: (none :: (none :: (none :: (none :: (none :: (none :: (none :: (none :: (none :: (none :: (none :: (none :: (none :: (none :: (none :: (none :: (none :: (none :: (none :: (none :: (none :: (none :: (none :: (none :: (none :: (none :: (none :: (none :: (none :: (none :: (none :: (none :: (none :: (none :: (none :: (none :: (none :: (none :: (none :: (none :: (none :: (none :: (none :: (none :: (none :: (none :: (none :: (none :: (none :: (none :: (none :: (none :: (none :: (none :: (none :: (none :: (none :: (none :: (none :: (none :: (none :: (none :: (none :: (none :: (none :: (none :: (none :: [])))))))))))))))))))))))))))))))))))))))))))))))))))))))))))))))))))))))))))))))))))))))))))))))))))))))))))))))))))))))))))))))))))))))))))))))))))))))))))))))))))))))))))))))))))))))))))))))))))))))))))))))))))))))))))) (List.cons (HO.row ((27 : Nat)) ((2 : Nat)) (p.N0) (fun j => (List.cons (SV.int (IntKind.u64) (p.F0_0 j)) (List.cons (SV.int (IntKind.u64) (p.F0_1 j)) [])))) []))) (Tr.need (e44_4_3 p s) (Tr.leaf (Rs.on (S44_4.mk ((e44_4_5 p s)) ((e44_4_6 p s)))))))
noncomputable def E44_4 : St th.R → Out th := evCode th Try.prog (auto th Try.prog nice43n [] 20) (autoH [] [] [] [999998] : Hints th) (lpAt Try.prog 44 4)
theorem B44_4 : CodeSound th Try.prog (lpAt Try.prog 44 4) E44_4 := evCode_sound (T := th) (P := Try.prog) (tbl := (auto th Try.prog nice43n [] 20)) (auto_sound (nice := nice43n) (us := []) nok43n 20) (autoH [] [] [] [999998] : Hints th) _ (LoopsOk_mem (fun _ => rfl) _ fun b hb L hL => by cases hL)
noncomputable def L44_4 : St th.R → Out th := loopL d44_4 ofV44_4 r44_4
theorem h1_44_4 (p : P44_4) (s : S44_4) : bld d44_4.tm (toV44_4 p s) = some (I44_4 p s) := by kernel_rfl
theorem h2_44_4 (l : List (Vl th.R)) (p : P44_4) (s : S44_4) (h : ofV44_4 l = some (p, s)) : l = toV44_4 p s := by
  unfold ofV44_4 at h
  split at h
  · cases h; rfl
  · cases h
theorem h3_44_4 (p : P44_4) (s : S44_4) : cvE d44_4 (E44_4 (I44_4 p s)) = some ((rf44_4 p s).map (Rs.map (toV44_4 p))) := by kernel_rfl
theorem h3g_44_4 (p : P44_4) (s : S44_4) : (rf44_4 p s).get = (r44_4 p s).get := by kernel_rfl
theorem h4_44_4 (p : P44_4) (s s1 : S44_4) : outH d44_4.dirt d44_4.n0 (r44_4 p s) = repH (maskH d44_4.dirt 0 d44_4.n0 (I44_4 p s1).heap) (r44_4 p s) := by kernel_rfl
theorem ls44_4 : CodeSound th Try.prog (.loop (lpAt Try.prog 44 4)) L44_4 := loopL_sound B44_4 d44_4 I44_4 toV44_4 (by kernel_rfl) h1_44_4 h2_44_4
  (fun p s => ⟨(rf44_4 p s).map (Rs.map (toV44_4 p)), h3_44_4 p s, fun h => by
    rw [Tr.map_ok]
    unfold r44_4 at h; unfold rf44_4
    simp only [Tr.ok, n_e44_4_1, n_e44_4_2, n_e44_4_4, true_and, and_true, forall_const, implies_true] at h ⊢
    try exact h, by rw [Tr.map_get, h3g_44_4 p s]⟩) h4_44_4
theorem ok44 : LoopsOk th Try.prog (autoH [(3, L44_0), (9, L44_1), (15, L44_2), (21, L44_3), (33, L44_4)] [] [] [999998] : Hints th) (bodyOf Try.prog 44) := autoH_ok (bs := [lpAt Try.prog 44 0, lpAt Try.prog 44 1, lpAt Try.prog 44 2, lpAt Try.prog 44 3, lpAt Try.prog 44 4]) (by kernel_rfl) fun b hb L hL => by
  simp only [List.mem_cons, List.not_mem_nil, or_false] at hb
  rcases hb with rfl | rfl | rfl | rfl | rfl
  · have e : lookL [(3, L44_0), (9, L44_1), (15, L44_2), (21, L44_3), (33, L44_4)] (firstReg (lpAt Try.prog 44 0)) = some L44_0 := by kernel_rfl
    rw [e] at hL; cases hL
    exact ls44_0
  · have e : lookL [(3, L44_0), (9, L44_1), (15, L44_2), (21, L44_3), (33, L44_4)] (firstReg (lpAt Try.prog 44 1)) = some L44_1 := by kernel_rfl
    rw [e] at hL; cases hL
    exact ls44_1
  · have e : lookL [(3, L44_0), (9, L44_1), (15, L44_2), (21, L44_3), (33, L44_4)] (firstReg (lpAt Try.prog 44 2)) = some L44_2 := by kernel_rfl
    rw [e] at hL; cases hL
    exact ls44_2
  · have e : lookL [(3, L44_0), (9, L44_1), (15, L44_2), (21, L44_3), (33, L44_4)] (firstReg (lpAt Try.prog 44 3)) = some L44_3 := by kernel_rfl
    rw [e] at hL; cases hL
    exact ls44_3
  · have e : lookL [(3, L44_0), (9, L44_1), (15, L44_2), (21, L44_3), (33, L44_4)] (firstReg (lpAt Try.prog 44 4)) = some L44_4 := by kernel_rfl
    rw [e] at hL; cases hL
    exact ls44_4
noncomputable def f44_0 (N : Nat) (v : V44) : (Prop) := (IntKind.i64.wrap (v.m - v.a) == (1 : Int)) = true → ∀ (i : Nat), i < v.M → (fun (j : Nat) => [SV.int IntKind.u64 (v.F j), SV.int IntKind.u64 (v.G j)]) i = elC (fun (j : Nat) => [SV.int IntKind.u64 (v.F j), SV.int IntKind.u64 (v.G j)]) (0:Nat) [Ck.int IntKind.u64, Ck.int IntKind.u64] i
noncomputable def f44_1 (N : Nat) (v : V44) : (Prop) := (IntKind.i64.wrap (v.m - v.a) == (1 : Int)) = true → LT (r44_0 (P44_0.mk v.L v.a v.M v.F v.G)) (S44_0.mk v.m v.b)
noncomputable def f44z0 (N : Nat) (v : V44) : S44_0 := lastS (r44_0 (P44_0.mk v.L v.a v.M v.F v.G)) (S44_0.mk v.m v.b)
noncomputable def f44_2 (N : Nat) (v : V44) : (Prop) := (IntKind.i64.wrap (v.m - v.a) == (1 : Int)) = true → LT (r44_1 (P44_1.mk v.L (f44z0 N v).x10 v.M)) (S44_1.mk v.a v.F v.G)
noncomputable def f44_3 (N : Nat) (v : V44) : (Prop) := (IntKind.i64.wrap (v.m - v.a) == (1 : Int)) = false → (IntKind.i64.wrap (v.b - v.m) == (1 : Int)) = true → ∀ (i : Nat), i < v.M → (fun (j : Nat) => [SV.int IntKind.u64 (v.F j), SV.int IntKind.u64 (v.G j)]) i = elC (fun (j : Nat) => [SV.int IntKind.u64 (v.F j), SV.int IntKind.u64 (v.G j)]) (0:Nat) [Ck.int IntKind.u64, Ck.int IntKind.u64] i
noncomputable def f44_4 (N : Nat) (v : V44) : (Prop) := (IntKind.i64.wrap (v.m - v.a) == (1 : Int)) = false → (IntKind.i64.wrap (v.b - v.m) == (1 : Int)) = true → LT (r44_2 (P44_2.mk v.L v.m v.M v.F v.G)) (S44_2.mk v.a v.m)
noncomputable def f44z1 (N : Nat) (v : V44) : S44_2 := lastS (r44_2 (P44_2.mk v.L v.m v.M v.F v.G)) (S44_2.mk v.a v.m)
noncomputable def f44_5 (N : Nat) (v : V44) : (Prop) := (IntKind.i64.wrap (v.m - v.a) == (1 : Int)) = false → (IntKind.i64.wrap (v.b - v.m) == (1 : Int)) = true → LT (r44_3 (P44_3.mk v.L (f44z1 N v).x14 v.M)) (S44_3.mk v.m v.F v.G)
noncomputable def f44_6 (N : Nat) (v : V44) : (Prop) := (IntKind.i64.wrap (v.m - v.a) == (1 : Int)) = false → (IntKind.i64.wrap (v.b - v.m) == (1 : Int)) = false → (0 : Int) ≤ (1 : Int)
noncomputable def f44_7 (N : Nat) (v : V44) : (Prop) := (IntKind.i64.wrap (v.m - v.a) == (1 : Int)) = false → (IntKind.i64.wrap (v.b - v.m) == (1 : Int)) = false → ∀ (i : Nat), i < v.M → (fun (j : Nat) => [SV.int IntKind.u64 (v.F j), SV.int IntKind.u64 (v.G j)]) i = elC (fun (j : Nat) => [SV.int IntKind.u64 (v.F j), SV.int IntKind.u64 (v.G j)]) (0:Nat) [Ck.int IntKind.u64, Ck.int IntKind.u64] i
noncomputable def f44_8 (N : Nat) (v : V44) : (Prop) := (IntKind.i64.wrap (v.m - v.a) == (1 : Int)) = false → (IntKind.i64.wrap (v.b - v.m) == (1 : Int)) = false → LT (r44_4 (P44_4.mk v.L v.a v.m v.b (IntKind.i64.wrap ((IntKind.u64.wrap (IntKind.i64.wrap (v.a + v.b))).fdiv (2 : Int))) (IntKind.i64.wrap (IntKind.i64.wrap ((IntKind.u64.wrap (IntKind.i64.wrap (v.a + v.b))).fdiv (2 : Int)) + v.m)) (IntKind.i64.wrap (IntKind.i64.wrap (IntKind.i64.wrap ((IntKind.u64.wrap (IntKind.i64.wrap (v.a + v.b))).fdiv (2 : Int)) + v.m) - (1 : Int))) v.M v.F v.G)) (S44_4.mk (cnd (decide (v.m > IntKind.i64.wrap ((IntKind.u64.wrap (IntKind.i64.wrap (v.a + v.b))).fdiv (2 : Int)))) (IntKind.i64.wrap (IntKind.i64.wrap (IntKind.i64.wrap ((IntKind.u64.wrap (IntKind.i64.wrap (v.a + v.b))).fdiv (2 : Int)) + v.m) - v.b)) v.a) (cnd (decide (v.m > IntKind.i64.wrap ((IntKind.u64.wrap (IntKind.i64.wrap (v.a + v.b))).fdiv (2 : Int)))) (IntKind.i64.wrap ((IntKind.u64.wrap (IntKind.i64.wrap (v.a + v.b))).fdiv (2 : Int))) v.m))
noncomputable def f44z2 (N : Nat) (v : V44) : S44_4 := lastS (r44_4 (P44_4.mk v.L v.a v.m v.b (IntKind.i64.wrap ((IntKind.u64.wrap (IntKind.i64.wrap (v.a + v.b))).fdiv (2 : Int))) (IntKind.i64.wrap (IntKind.i64.wrap ((IntKind.u64.wrap (IntKind.i64.wrap (v.a + v.b))).fdiv (2 : Int)) + v.m)) (IntKind.i64.wrap (IntKind.i64.wrap (IntKind.i64.wrap ((IntKind.u64.wrap (IntKind.i64.wrap (v.a + v.b))).fdiv (2 : Int)) + v.m) - (1 : Int))) v.M v.F v.G)) (S44_4.mk (cnd (decide (v.m > IntKind.i64.wrap ((IntKind.u64.wrap (IntKind.i64.wrap (v.a + v.b))).fdiv (2 : Int)))) (IntKind.i64.wrap (IntKind.i64.wrap (IntKind.i64.wrap ((IntKind.u64.wrap (IntKind.i64.wrap (v.a + v.b))).fdiv (2 : Int)) + v.m) - v.b)) v.a) (cnd (decide (v.m > IntKind.i64.wrap ((IntKind.u64.wrap (IntKind.i64.wrap (v.a + v.b))).fdiv (2 : Int)))) (IntKind.i64.wrap ((IntKind.u64.wrap (IntKind.i64.wrap (v.a + v.b))).fdiv (2 : Int))) v.m))
noncomputable def f44_9 (N : Nat) (v : V44) : (Prop) := (IntKind.i64.wrap (v.m - v.a) == (1 : Int)) = false → (IntKind.i64.wrap (v.b - v.m) == (1 : Int)) = false → cnd (decide ((f44z2 N v).x20 < v.m)) (decide (v.m < IntKind.i64.wrap (IntKind.i64.wrap (IntKind.i64.wrap ((IntKind.u64.wrap (IntKind.i64.wrap (v.a + v.b))).fdiv (2 : Int)) + v.m) - (f44z2 N v).x20))) false = true → ∀ (i : Nat), scpL (0:Nat) ((fun (j : Nat) => [SV.int IntKind.u64 (v.F j), SV.int IntKind.u64 (v.G j)]) i) = true
noncomputable def f44_10 (N : Nat) (v : V44) : (Prop) := (IntKind.i64.wrap (v.m - v.a) == (1 : Int)) = false → (IntKind.i64.wrap (v.b - v.m) == (1 : Int)) = false → cnd (decide ((f44z2 N v).x20 < v.m)) (decide (v.m < IntKind.i64.wrap (IntKind.i64.wrap (IntKind.i64.wrap ((IntKind.u64.wrap (IntKind.i64.wrap (v.a + v.b))).fdiv (2 : Int)) + v.m) - (f44z2 N v).x20))) false = true → ∀ (i : Nat), i < v.M → (fun (j : Nat) => [SV.int IntKind.u64 (v.F j), SV.int IntKind.u64 (v.G j)]) i = elC (fun (j : Nat) => [SV.int IntKind.u64 (v.F j), SV.int IntKind.u64 (v.G j)]) (0:Nat) [Ck.int IntKind.u64, Ck.int IntKind.u64] i
noncomputable def f44_11 (N : Nat) (v : V44) : (Prop) := (IntKind.i64.wrap (v.m - v.a) == (1 : Int)) = false → (IntKind.i64.wrap (v.b - v.m) == (1 : Int)) = false → cnd (decide ((f44z2 N v).x20 < v.m)) (decide (v.m < IntKind.i64.wrap (IntKind.i64.wrap (IntKind.i64.wrap ((IntKind.u64.wrap (IntKind.i64.wrap (v.a + v.b))).fdiv (2 : Int)) + v.m) - (f44z2 N v).x20))) false = true → pre46 (V46.mk v.L (f44z2 N v).x20 v.m (IntKind.i64.wrap (IntKind.i64.wrap (IntKind.i64.wrap ((IntKind.u64.wrap (IntKind.i64.wrap (v.a + v.b))).fdiv (2 : Int)) + v.m) - (f44z2 N v).x20)) v.M v.F v.G)
noncomputable def f44_12 (N : Nat) (v : V44) : (Prop) := (IntKind.i64.wrap (v.m - v.a) == (1 : Int)) = false → (IntKind.i64.wrap (v.b - v.m) == (1 : Int)) = false → cnd (decide ((f44z2 N v).x20 < v.m)) (decide (v.m < IntKind.i64.wrap (IntKind.i64.wrap (IntKind.i64.wrap ((IntKind.u64.wrap (IntKind.i64.wrap (v.a + v.b))).fdiv (2 : Int)) + v.m) - (f44z2 N v).x20))) false = true → ∀ (i : Nat), scpL (0:Nat) ((fun (j : Nat) => [SV.int IntKind.u64 (So.rot (sp v.F v.G) (f44z2 N v).x20.toNat v.m.toNat (IntKind.i64.wrap (IntKind.i64.wrap (IntKind.i64.wrap ((IntKind.u64.wrap (IntKind.i64.wrap (v.a + v.b))).fdiv (2 : Int)) + v.m) - (f44z2 N v).x20)).toNat j).fst, SV.int IntKind.u64 (So.rot (sp v.F v.G) (f44z2 N v).x20.toNat v.m.toNat (IntKind.i64.wrap (IntKind.i64.wrap (IntKind.i64.wrap ((IntKind.u64.wrap (IntKind.i64.wrap (v.a + v.b))).fdiv (2 : Int)) + v.m) - (f44z2 N v).x20)).toNat j).snd]) i) = true
noncomputable def f44_13 (N : Nat) (v : V44) : (Prop) := (IntKind.i64.wrap (v.m - v.a) == (1 : Int)) = false → (IntKind.i64.wrap (v.b - v.m) == (1 : Int)) = false → cnd (decide ((f44z2 N v).x20 < v.m)) (decide (v.m < IntKind.i64.wrap (IntKind.i64.wrap (IntKind.i64.wrap ((IntKind.u64.wrap (IntKind.i64.wrap (v.a + v.b))).fdiv (2 : Int)) + v.m) - (f44z2 N v).x20))) false = true → cnd (decide (v.a < (f44z2 N v).x20)) (decide ((f44z2 N v).x20 < IntKind.i64.wrap ((IntKind.u64.wrap (IntKind.i64.wrap (v.a + v.b))).fdiv (2 : Int)))) false = true → ∀ (i : Nat), scpL (0:Nat) ((fun (j : Nat) => [SV.int IntKind.u64 (So.rot (sp v.F v.G) (f44z2 N v).x20.toNat v.m.toNat (IntKind.i64.wrap (IntKind.i64.wrap (IntKind.i64.wrap ((IntKind.u64.wrap (IntKind.i64.wrap (v.a + v.b))).fdiv (2 : Int)) + v.m) - (f44z2 N v).x20)).toNat j).fst, SV.int IntKind.u64 (So.rot (sp v.F v.G) (f44z2 N v).x20.toNat v.m.toNat (IntKind.i64.wrap (IntKind.i64.wrap (IntKind.i64.wrap ((IntKind.u64.wrap (IntKind.i64.wrap (v.a + v.b))).fdiv (2 : Int)) + v.m) - (f44z2 N v).x20)).toNat j).snd]) i) = true
noncomputable def f44_14 (N : Nat) (v : V44) : (Prop) := (IntKind.i64.wrap (v.m - v.a) == (1 : Int)) = false → (IntKind.i64.wrap (v.b - v.m) == (1 : Int)) = false → cnd (decide ((f44z2 N v).x20 < v.m)) (decide (v.m < IntKind.i64.wrap (IntKind.i64.wrap (IntKind.i64.wrap ((IntKind.u64.wrap (IntKind.i64.wrap (v.a + v.b))).fdiv (2 : Int)) + v.m) - (f44z2 N v).x20))) false = true → cnd (decide (v.a < (f44z2 N v).x20)) (decide ((f44z2 N v).x20 < IntKind.i64.wrap ((IntKind.u64.wrap (IntKind.i64.wrap (v.a + v.b))).fdiv (2 : Int)))) false = true → ∀ (i : Nat), i < v.M → (fun (j : Nat) => [SV.int IntKind.u64 (So.rot (sp v.F v.G) (f44z2 N v).x20.toNat v.m.toNat (IntKind.i64.wrap (IntKind.i64.wrap (IntKind.i64.wrap ((IntKind.u64.wrap (IntKind.i64.wrap (v.a + v.b))).fdiv (2 : Int)) + v.m) - (f44z2 N v).x20)).toNat j).fst, SV.int IntKind.u64 (So.rot (sp v.F v.G) (f44z2 N v).x20.toNat v.m.toNat (IntKind.i64.wrap (IntKind.i64.wrap (IntKind.i64.wrap ((IntKind.u64.wrap (IntKind.i64.wrap (v.a + v.b))).fdiv (2 : Int)) + v.m) - (f44z2 N v).x20)).toNat j).snd]) i = elC (fun (j : Nat) => [SV.int IntKind.u64 (So.rot (sp v.F v.G) (f44z2 N v).x20.toNat v.m.toNat (IntKind.i64.wrap (IntKind.i64.wrap (IntKind.i64.wrap ((IntKind.u64.wrap (IntKind.i64.wrap (v.a + v.b))).fdiv (2 : Int)) + v.m) - (f44z2 N v).x20)).toNat j).fst, SV.int IntKind.u64 (So.rot (sp v.F v.G) (f44z2 N v).x20.toNat v.m.toNat (IntKind.i64.wrap (IntKind.i64.wrap (IntKind.i64.wrap ((IntKind.u64.wrap (IntKind.i64.wrap (v.a + v.b))).fdiv (2 : Int)) + v.m) - (f44z2 N v).x20)).toNat j).snd]) (0:Nat) [Ck.int IntKind.u64, Ck.int IntKind.u64] i
noncomputable def f44_15 (N : Nat) (v : V44) : (Prop) := (IntKind.i64.wrap (v.m - v.a) == (1 : Int)) = false → (IntKind.i64.wrap (v.b - v.m) == (1 : Int)) = false → cnd (decide ((f44z2 N v).x20 < v.m)) (decide (v.m < IntKind.i64.wrap (IntKind.i64.wrap (IntKind.i64.wrap ((IntKind.u64.wrap (IntKind.i64.wrap (v.a + v.b))).fdiv (2 : Int)) + v.m) - (f44z2 N v).x20))) false = true → cnd (decide (v.a < (f44z2 N v).x20)) (decide ((f44z2 N v).x20 < IntKind.i64.wrap ((IntKind.u64.wrap (IntKind.i64.wrap (v.a + v.b))).fdiv (2 : Int)))) false = true → pre44 (V44.mk v.L v.a (f44z2 N v).x20 (IntKind.i64.wrap ((IntKind.u64.wrap (IntKind.i64.wrap (v.a + v.b))).fdiv (2 : Int))) v.M (fun (j : Nat) => (So.rot (sp v.F v.G) (f44z2 N v).x20.toNat v.m.toNat (IntKind.i64.wrap (IntKind.i64.wrap (IntKind.i64.wrap ((IntKind.u64.wrap (IntKind.i64.wrap (v.a + v.b))).fdiv (2 : Int)) + v.m) - (f44z2 N v).x20)).toNat j).fst) fun (j : Nat) => (So.rot (sp v.F v.G) (f44z2 N v).x20.toNat v.m.toNat (IntKind.i64.wrap (IntKind.i64.wrap (IntKind.i64.wrap ((IntKind.u64.wrap (IntKind.i64.wrap (v.a + v.b))).fdiv (2 : Int)) + v.m) - (f44z2 N v).x20)).toNat j).snd) ∧ IntKind.i64.wrap ((IntKind.u64.wrap (IntKind.i64.wrap (v.a + v.b))).fdiv (2 : Int)) - v.a < (↑N : Int)
noncomputable def f44_16 (N : Nat) (v : V44) : (Prop) := (IntKind.i64.wrap (v.m - v.a) == (1 : Int)) = false → (IntKind.i64.wrap (v.b - v.m) == (1 : Int)) = false → cnd (decide ((f44z2 N v).x20 < v.m)) (decide (v.m < IntKind.i64.wrap (IntKind.i64.wrap (IntKind.i64.wrap ((IntKind.u64.wrap (IntKind.i64.wrap (v.a + v.b))).fdiv (2 : Int)) + v.m) - (f44z2 N v).x20))) false = true → cnd (decide (v.a < (f44z2 N v).x20)) (decide ((f44z2 N v).x20 < IntKind.i64.wrap ((IntKind.u64.wrap (IntKind.i64.wrap (v.a + v.b))).fdiv (2 : Int)))) false = true → ∀ (i : Nat), scpL (0:Nat) ((fun (j : Nat) => [SV.int IntKind.u64 (So.srt (sp (fun (j : Nat) => (So.rot (sp v.F v.G) (f44z2 N v).x20.toNat v.m.toNat (IntKind.i64.wrap (IntKind.i64.wrap (IntKind.i64.wrap ((IntKind.u64.wrap (IntKind.i64.wrap (v.a + v.b))).fdiv (2 : Int)) + v.m) - (f44z2 N v).x20)).toNat j).fst) fun (j : Nat) => (So.rot (sp v.F v.G) (f44z2 N v).x20.toNat v.m.toNat (IntKind.i64.wrap (IntKind.i64.wrap (IntKind.i64.wrap ((IntKind.u64.wrap (IntKind.i64.wrap (v.a + v.b))).fdiv (2 : Int)) + v.m) - (f44z2 N v).x20)).toNat j).snd) v.a.toNat (IntKind.i64.wrap ((IntKind.u64.wrap (IntKind.i64.wrap (v.a + v.b))).fdiv (2 : Int))).toNat j).fst, SV.int IntKind.u64 (So.srt (sp (fun (j : Nat) => (So.rot (sp v.F v.G) (f44z2 N v).x20.toNat v.m.toNat (IntKind.i64.wrap (IntKind.i64.wrap (IntKind.i64.wrap ((IntKind.u64.wrap (IntKind.i64.wrap (v.a + v.b))).fdiv (2 : Int)) + v.m) - (f44z2 N v).x20)).toNat j).fst) fun (j : Nat) => (So.rot (sp v.F v.G) (f44z2 N v).x20.toNat v.m.toNat (IntKind.i64.wrap (IntKind.i64.wrap (IntKind.i64.wrap ((IntKind.u64.wrap (IntKind.i64.wrap (v.a + v.b))).fdiv (2 : Int)) + v.m) - (f44z2 N v).x20)).toNat j).snd) v.a.toNat (IntKind.i64.wrap ((IntKind.u64.wrap (IntKind.i64.wrap (v.a + v.b))).fdiv (2 : Int))).toNat j).snd]) i) = true
noncomputable def f44_17 (N : Nat) (v : V44) : (Prop) := (IntKind.i64.wrap (v.m - v.a) == (1 : Int)) = false → (IntKind.i64.wrap (v.b - v.m) == (1 : Int)) = false → cnd (decide ((f44z2 N v).x20 < v.m)) (decide (v.m < IntKind.i64.wrap (IntKind.i64.wrap (IntKind.i64.wrap ((IntKind.u64.wrap (IntKind.i64.wrap (v.a + v.b))).fdiv (2 : Int)) + v.m) - (f44z2 N v).x20))) false = true → cnd (decide (v.a < (f44z2 N v).x20)) (decide ((f44z2 N v).x20 < IntKind.i64.wrap ((IntKind.u64.wrap (IntKind.i64.wrap (v.a + v.b))).fdiv (2 : Int)))) false = true → cnd (decide (IntKind.i64.wrap ((IntKind.u64.wrap (IntKind.i64.wrap (v.a + v.b))).fdiv (2 : Int)) < IntKind.i64.wrap (IntKind.i64.wrap (IntKind.i64.wrap ((IntKind.u64.wrap (IntKind.i64.wrap (v.a + v.b))).fdiv (2 : Int)) + v.m) - (f44z2 N v).x20))) (decide (IntKind.i64.wrap (IntKind.i64.wrap (IntKind.i64.wrap ((IntKind.u64.wrap (IntKind.i64.wrap (v.a + v.b))).fdiv (2 : Int)) + v.m) - (f44z2 N v).x20) < v.b)) false = true → ∀ (i : Nat), scpL (0:Nat) ((fun (j : Nat) => [SV.int IntKind.u64 (So.srt (sp (fun (j : Nat) => (So.rot (sp v.F v.G) (f44z2 N v).x20.toNat v.m.toNat (IntKind.i64.wrap (IntKind.i64.wrap (IntKind.i64.wrap ((IntKind.u64.wrap (IntKind.i64.wrap (v.a + v.b))).fdiv (2 : Int)) + v.m) - (f44z2 N v).x20)).toNat j).fst) fun (j : Nat) => (So.rot (sp v.F v.G) (f44z2 N v).x20.toNat v.m.toNat (IntKind.i64.wrap (IntKind.i64.wrap (IntKind.i64.wrap ((IntKind.u64.wrap (IntKind.i64.wrap (v.a + v.b))).fdiv (2 : Int)) + v.m) - (f44z2 N v).x20)).toNat j).snd) v.a.toNat (IntKind.i64.wrap ((IntKind.u64.wrap (IntKind.i64.wrap (v.a + v.b))).fdiv (2 : Int))).toNat j).fst, SV.int IntKind.u64 (So.srt (sp (fun (j : Nat) => (So.rot (sp v.F v.G) (f44z2 N v).x20.toNat v.m.toNat (IntKind.i64.wrap (IntKind.i64.wrap (IntKind.i64.wrap ((IntKind.u64.wrap (IntKind.i64.wrap (v.a + v.b))).fdiv (2 : Int)) + v.m) - (f44z2 N v).x20)).toNat j).fst) fun (j : Nat) => (So.rot (sp v.F v.G) (f44z2 N v).x20.toNat v.m.toNat (IntKind.i64.wrap (IntKind.i64.wrap (IntKind.i64.wrap ((IntKind.u64.wrap (IntKind.i64.wrap (v.a + v.b))).fdiv (2 : Int)) + v.m) - (f44z2 N v).x20)).toNat j).snd) v.a.toNat (IntKind.i64.wrap ((IntKind.u64.wrap (IntKind.i64.wrap (v.a + v.b))).fdiv (2 : Int))).toNat j).snd]) i) = true
noncomputable def f44_18 (N : Nat) (v : V44) : (Prop) := (IntKind.i64.wrap (v.m - v.a) == (1 : Int)) = false → (IntKind.i64.wrap (v.b - v.m) == (1 : Int)) = false → cnd (decide ((f44z2 N v).x20 < v.m)) (decide (v.m < IntKind.i64.wrap (IntKind.i64.wrap (IntKind.i64.wrap ((IntKind.u64.wrap (IntKind.i64.wrap (v.a + v.b))).fdiv (2 : Int)) + v.m) - (f44z2 N v).x20))) false = true → cnd (decide (v.a < (f44z2 N v).x20)) (decide ((f44z2 N v).x20 < IntKind.i64.wrap ((IntKind.u64.wrap (IntKind.i64.wrap (v.a + v.b))).fdiv (2 : Int)))) false = true → cnd (decide (IntKind.i64.wrap ((IntKind.u64.wrap (IntKind.i64.wrap (v.a + v.b))).fdiv (2 : Int)) < IntKind.i64.wrap (IntKind.i64.wrap (IntKind.i64.wrap ((IntKind.u64.wrap (IntKind.i64.wrap (v.a + v.b))).fdiv (2 : Int)) + v.m) - (f44z2 N v).x20))) (decide (IntKind.i64.wrap (IntKind.i64.wrap (IntKind.i64.wrap ((IntKind.u64.wrap (IntKind.i64.wrap (v.a + v.b))).fdiv (2 : Int)) + v.m) - (f44z2 N v).x20) < v.b)) false = true → ∀ (i : Nat), i < v.M → (fun (j : Nat) => [SV.int IntKind.u64 (So.srt (sp (fun (j : Nat) => (So.rot (sp v.F v.G) (f44z2 N v).x20.toNat v.m.toNat (IntKind.i64.wrap (IntKind.i64.wrap (IntKind.i64.wrap ((IntKind.u64.wrap (IntKind.i64.wrap (v.a + v.b))).fdiv (2 : Int)) + v.m) - (f44z2 N v).x20)).toNat j).fst) fun (j : Nat) => (So.rot (sp v.F v.G) (f44z2 N v).x20.toNat v.m.toNat (IntKind.i64.wrap (IntKind.i64.wrap (IntKind.i64.wrap ((IntKind.u64.wrap (IntKind.i64.wrap (v.a + v.b))).fdiv (2 : Int)) + v.m) - (f44z2 N v).x20)).toNat j).snd) v.a.toNat (IntKind.i64.wrap ((IntKind.u64.wrap (IntKind.i64.wrap (v.a + v.b))).fdiv (2 : Int))).toNat j).fst, SV.int IntKind.u64 (So.srt (sp (fun (j : Nat) => (So.rot (sp v.F v.G) (f44z2 N v).x20.toNat v.m.toNat (IntKind.i64.wrap (IntKind.i64.wrap (IntKind.i64.wrap ((IntKind.u64.wrap (IntKind.i64.wrap (v.a + v.b))).fdiv (2 : Int)) + v.m) - (f44z2 N v).x20)).toNat j).fst) fun (j : Nat) => (So.rot (sp v.F v.G) (f44z2 N v).x20.toNat v.m.toNat (IntKind.i64.wrap (IntKind.i64.wrap (IntKind.i64.wrap ((IntKind.u64.wrap (IntKind.i64.wrap (v.a + v.b))).fdiv (2 : Int)) + v.m) - (f44z2 N v).x20)).toNat j).snd) v.a.toNat (IntKind.i64.wrap ((IntKind.u64.wrap (IntKind.i64.wrap (v.a + v.b))).fdiv (2 : Int))).toNat j).snd]) i = elC (fun (j : Nat) => [SV.int IntKind.u64 (So.srt (sp (fun (j : Nat) => (So.rot (sp v.F v.G) (f44z2 N v).x20.toNat v.m.toNat (IntKind.i64.wrap (IntKind.i64.wrap (IntKind.i64.wrap ((IntKind.u64.wrap (IntKind.i64.wrap (v.a + v.b))).fdiv (2 : Int)) + v.m) - (f44z2 N v).x20)).toNat j).fst) fun (j : Nat) => (So.rot (sp v.F v.G) (f44z2 N v).x20.toNat v.m.toNat (IntKind.i64.wrap (IntKind.i64.wrap (IntKind.i64.wrap ((IntKind.u64.wrap (IntKind.i64.wrap (v.a + v.b))).fdiv (2 : Int)) + v.m) - (f44z2 N v).x20)).toNat j).snd) v.a.toNat (IntKind.i64.wrap ((IntKind.u64.wrap (IntKind.i64.wrap (v.a + v.b))).fdiv (2 : Int))).toNat j).fst, SV.int IntKind.u64 (So.srt (sp (fun (j : Nat) => (So.rot (sp v.F v.G) (f44z2 N v).x20.toNat v.m.toNat (IntKind.i64.wrap (IntKind.i64.wrap (IntKind.i64.wrap ((IntKind.u64.wrap (IntKind.i64.wrap (v.a + v.b))).fdiv (2 : Int)) + v.m) - (f44z2 N v).x20)).toNat j).fst) fun (j : Nat) => (So.rot (sp v.F v.G) (f44z2 N v).x20.toNat v.m.toNat (IntKind.i64.wrap (IntKind.i64.wrap (IntKind.i64.wrap ((IntKind.u64.wrap (IntKind.i64.wrap (v.a + v.b))).fdiv (2 : Int)) + v.m) - (f44z2 N v).x20)).toNat j).snd) v.a.toNat (IntKind.i64.wrap ((IntKind.u64.wrap (IntKind.i64.wrap (v.a + v.b))).fdiv (2 : Int))).toNat j).snd]) (0:Nat) [Ck.int IntKind.u64, Ck.int IntKind.u64] i
noncomputable def f44_19 (N : Nat) (v : V44) : (Prop) := (IntKind.i64.wrap (v.m - v.a) == (1 : Int)) = false → (IntKind.i64.wrap (v.b - v.m) == (1 : Int)) = false → cnd (decide ((f44z2 N v).x20 < v.m)) (decide (v.m < IntKind.i64.wrap (IntKind.i64.wrap (IntKind.i64.wrap ((IntKind.u64.wrap (IntKind.i64.wrap (v.a + v.b))).fdiv (2 : Int)) + v.m) - (f44z2 N v).x20))) false = true → cnd (decide (v.a < (f44z2 N v).x20)) (decide ((f44z2 N v).x20 < IntKind.i64.wrap ((IntKind.u64.wrap (IntKind.i64.wrap (v.a + v.b))).fdiv (2 : Int)))) false = true → cnd (decide (IntKind.i64.wrap ((IntKind.u64.wrap (IntKind.i64.wrap (v.a + v.b))).fdiv (2 : Int)) < IntKind.i64.wrap (IntKind.i64.wrap (IntKind.i64.wrap ((IntKind.u64.wrap (IntKind.i64.wrap (v.a + v.b))).fdiv (2 : Int)) + v.m) - (f44z2 N v).x20))) (decide (IntKind.i64.wrap (IntKind.i64.wrap (IntKind.i64.wrap ((IntKind.u64.wrap (IntKind.i64.wrap (v.a + v.b))).fdiv (2 : Int)) + v.m) - (f44z2 N v).x20) < v.b)) false = true → pre44 (V44.mk v.L (IntKind.i64.wrap ((IntKind.u64.wrap (IntKind.i64.wrap (v.a + v.b))).fdiv (2 : Int))) (IntKind.i64.wrap (IntKind.i64.wrap (IntKind.i64.wrap ((IntKind.u64.wrap (IntKind.i64.wrap (v.a + v.b))).fdiv (2 : Int)) + v.m) - (f44z2 N v).x20)) v.b v.M (fun (j : Nat) => (So.srt (sp (fun (j : Nat) => (So.rot (sp v.F v.G) (f44z2 N v).x20.toNat v.m.toNat (IntKind.i64.wrap (IntKind.i64.wrap (IntKind.i64.wrap ((IntKind.u64.wrap (IntKind.i64.wrap (v.a + v.b))).fdiv (2 : Int)) + v.m) - (f44z2 N v).x20)).toNat j).fst) fun (j : Nat) => (So.rot (sp v.F v.G) (f44z2 N v).x20.toNat v.m.toNat (IntKind.i64.wrap (IntKind.i64.wrap (IntKind.i64.wrap ((IntKind.u64.wrap (IntKind.i64.wrap (v.a + v.b))).fdiv (2 : Int)) + v.m) - (f44z2 N v).x20)).toNat j).snd) v.a.toNat (IntKind.i64.wrap ((IntKind.u64.wrap (IntKind.i64.wrap (v.a + v.b))).fdiv (2 : Int))).toNat j).fst) fun (j : Nat) => (So.srt (sp (fun (j : Nat) => (So.rot (sp v.F v.G) (f44z2 N v).x20.toNat v.m.toNat (IntKind.i64.wrap (IntKind.i64.wrap (IntKind.i64.wrap ((IntKind.u64.wrap (IntKind.i64.wrap (v.a + v.b))).fdiv (2 : Int)) + v.m) - (f44z2 N v).x20)).toNat j).fst) fun (j : Nat) => (So.rot (sp v.F v.G) (f44z2 N v).x20.toNat v.m.toNat (IntKind.i64.wrap (IntKind.i64.wrap (IntKind.i64.wrap ((IntKind.u64.wrap (IntKind.i64.wrap (v.a + v.b))).fdiv (2 : Int)) + v.m) - (f44z2 N v).x20)).toNat j).snd) v.a.toNat (IntKind.i64.wrap ((IntKind.u64.wrap (IntKind.i64.wrap (v.a + v.b))).fdiv (2 : Int))).toNat j).snd) ∧ v.b - IntKind.i64.wrap ((IntKind.u64.wrap (IntKind.i64.wrap (v.a + v.b))).fdiv (2 : Int)) < (↑N : Int)
noncomputable def f44_20 (N : Nat) (v : V44) : (Prop) := (IntKind.i64.wrap (v.m - v.a) == (1 : Int)) = false → (IntKind.i64.wrap (v.b - v.m) == (1 : Int)) = false → cnd (decide ((f44z2 N v).x20 < v.m)) (decide (v.m < IntKind.i64.wrap (IntKind.i64.wrap (IntKind.i64.wrap ((IntKind.u64.wrap (IntKind.i64.wrap (v.a + v.b))).fdiv (2 : Int)) + v.m) - (f44z2 N v).x20))) false = true → cnd (decide (v.a < (f44z2 N v).x20)) (decide ((f44z2 N v).x20 < IntKind.i64.wrap ((IntKind.u64.wrap (IntKind.i64.wrap (v.a + v.b))).fdiv (2 : Int)))) false = true → cnd (decide (IntKind.i64.wrap ((IntKind.u64.wrap (IntKind.i64.wrap (v.a + v.b))).fdiv (2 : Int)) < IntKind.i64.wrap (IntKind.i64.wrap (IntKind.i64.wrap ((IntKind.u64.wrap (IntKind.i64.wrap (v.a + v.b))).fdiv (2 : Int)) + v.m) - (f44z2 N v).x20))) (decide (IntKind.i64.wrap (IntKind.i64.wrap (IntKind.i64.wrap ((IntKind.u64.wrap (IntKind.i64.wrap (v.a + v.b))).fdiv (2 : Int)) + v.m) - (f44z2 N v).x20) < v.b)) false = true → ∀ (i : Nat), scpL (0:Nat) ((fun (j : Nat) => [SV.int IntKind.u64 (So.srt (sp (fun (j : Nat) => (So.srt (sp (fun (j : Nat) => (So.rot (sp v.F v.G) (f44z2 N v).x20.toNat v.m.toNat (IntKind.i64.wrap (IntKind.i64.wrap (IntKind.i64.wrap ((IntKind.u64.wrap (IntKind.i64.wrap (v.a + v.b))).fdiv (2 : Int)) + v.m) - (f44z2 N v).x20)).toNat j).fst) fun (j : Nat) => (So.rot (sp v.F v.G) (f44z2 N v).x20.toNat v.m.toNat (IntKind.i64.wrap (IntKind.i64.wrap (IntKind.i64.wrap ((IntKind.u64.wrap (IntKind.i64.wrap (v.a + v.b))).fdiv (2 : Int)) + v.m) - (f44z2 N v).x20)).toNat j).snd) v.a.toNat (IntKind.i64.wrap ((IntKind.u64.wrap (IntKind.i64.wrap (v.a + v.b))).fdiv (2 : Int))).toNat j).fst) fun (j : Nat) => (So.srt (sp (fun (j : Nat) => (So.rot (sp v.F v.G) (f44z2 N v).x20.toNat v.m.toNat (IntKind.i64.wrap (IntKind.i64.wrap (IntKind.i64.wrap ((IntKind.u64.wrap (IntKind.i64.wrap (v.a + v.b))).fdiv (2 : Int)) + v.m) - (f44z2 N v).x20)).toNat j).fst) fun (j : Nat) => (So.rot (sp v.F v.G) (f44z2 N v).x20.toNat v.m.toNat (IntKind.i64.wrap (IntKind.i64.wrap (IntKind.i64.wrap ((IntKind.u64.wrap (IntKind.i64.wrap (v.a + v.b))).fdiv (2 : Int)) + v.m) - (f44z2 N v).x20)).toNat j).snd) v.a.toNat (IntKind.i64.wrap ((IntKind.u64.wrap (IntKind.i64.wrap (v.a + v.b))).fdiv (2 : Int))).toNat j).snd) (IntKind.i64.wrap ((IntKind.u64.wrap (IntKind.i64.wrap (v.a + v.b))).fdiv (2 : Int))).toNat v.b.toNat j).fst, SV.int IntKind.u64 (So.srt (sp (fun (j : Nat) => (So.srt (sp (fun (j : Nat) => (So.rot (sp v.F v.G) (f44z2 N v).x20.toNat v.m.toNat (IntKind.i64.wrap (IntKind.i64.wrap (IntKind.i64.wrap ((IntKind.u64.wrap (IntKind.i64.wrap (v.a + v.b))).fdiv (2 : Int)) + v.m) - (f44z2 N v).x20)).toNat j).fst) fun (j : Nat) => (So.rot (sp v.F v.G) (f44z2 N v).x20.toNat v.m.toNat (IntKind.i64.wrap (IntKind.i64.wrap (IntKind.i64.wrap ((IntKind.u64.wrap (IntKind.i64.wrap (v.a + v.b))).fdiv (2 : Int)) + v.m) - (f44z2 N v).x20)).toNat j).snd) v.a.toNat (IntKind.i64.wrap ((IntKind.u64.wrap (IntKind.i64.wrap (v.a + v.b))).fdiv (2 : Int))).toNat j).fst) fun (j : Nat) => (So.srt (sp (fun (j : Nat) => (So.rot (sp v.F v.G) (f44z2 N v).x20.toNat v.m.toNat (IntKind.i64.wrap (IntKind.i64.wrap (IntKind.i64.wrap ((IntKind.u64.wrap (IntKind.i64.wrap (v.a + v.b))).fdiv (2 : Int)) + v.m) - (f44z2 N v).x20)).toNat j).fst) fun (j : Nat) => (So.rot (sp v.F v.G) (f44z2 N v).x20.toNat v.m.toNat (IntKind.i64.wrap (IntKind.i64.wrap (IntKind.i64.wrap ((IntKind.u64.wrap (IntKind.i64.wrap (v.a + v.b))).fdiv (2 : Int)) + v.m) - (f44z2 N v).x20)).toNat j).snd) v.a.toNat (IntKind.i64.wrap ((IntKind.u64.wrap (IntKind.i64.wrap (v.a + v.b))).fdiv (2 : Int))).toNat j).snd) (IntKind.i64.wrap ((IntKind.u64.wrap (IntKind.i64.wrap (v.a + v.b))).fdiv (2 : Int))).toNat v.b.toNat j).snd]) i) = true
noncomputable def f44_21 (N : Nat) (v : V44) : (Prop) := (IntKind.i64.wrap (v.m - v.a) == (1 : Int)) = false → (IntKind.i64.wrap (v.b - v.m) == (1 : Int)) = false → cnd (decide ((f44z2 N v).x20 < v.m)) (decide (v.m < IntKind.i64.wrap (IntKind.i64.wrap (IntKind.i64.wrap ((IntKind.u64.wrap (IntKind.i64.wrap (v.a + v.b))).fdiv (2 : Int)) + v.m) - (f44z2 N v).x20))) false = true → cnd (decide (v.a < (f44z2 N v).x20)) (decide ((f44z2 N v).x20 < IntKind.i64.wrap ((IntKind.u64.wrap (IntKind.i64.wrap (v.a + v.b))).fdiv (2 : Int)))) false = false → cnd (decide (IntKind.i64.wrap ((IntKind.u64.wrap (IntKind.i64.wrap (v.a + v.b))).fdiv (2 : Int)) < IntKind.i64.wrap (IntKind.i64.wrap (IntKind.i64.wrap ((IntKind.u64.wrap (IntKind.i64.wrap (v.a + v.b))).fdiv (2 : Int)) + v.m) - (f44z2 N v).x20))) (decide (IntKind.i64.wrap (IntKind.i64.wrap (IntKind.i64.wrap ((IntKind.u64.wrap (IntKind.i64.wrap (v.a + v.b))).fdiv (2 : Int)) + v.m) - (f44z2 N v).x20) < v.b)) false = true → ∀ (i : Nat), scpL (0:Nat) ((fun (j : Nat) => [SV.int IntKind.u64 (So.rot (sp v.F v.G) (f44z2 N v).x20.toNat v.m.toNat (IntKind.i64.wrap (IntKind.i64.wrap (IntKind.i64.wrap ((IntKind.u64.wrap (IntKind.i64.wrap (v.a + v.b))).fdiv (2 : Int)) + v.m) - (f44z2 N v).x20)).toNat j).fst, SV.int IntKind.u64 (So.rot (sp v.F v.G) (f44z2 N v).x20.toNat v.m.toNat (IntKind.i64.wrap (IntKind.i64.wrap (IntKind.i64.wrap ((IntKind.u64.wrap (IntKind.i64.wrap (v.a + v.b))).fdiv (2 : Int)) + v.m) - (f44z2 N v).x20)).toNat j).snd]) i) = true
noncomputable def f44_22 (N : Nat) (v : V44) : (Prop) := (IntKind.i64.wrap (v.m - v.a) == (1 : Int)) = false → (IntKind.i64.wrap (v.b - v.m) == (1 : Int)) = false → cnd (decide ((f44z2 N v).x20 < v.m)) (decide (v.m < IntKind.i64.wrap (IntKind.i64.wrap (IntKind.i64.wrap ((IntKind.u64.wrap (IntKind.i64.wrap (v.a + v.b))).fdiv (2 : Int)) + v.m) - (f44z2 N v).x20))) false = true → cnd (decide (v.a < (f44z2 N v).x20)) (decide ((f44z2 N v).x20 < IntKind.i64.wrap ((IntKind.u64.wrap (IntKind.i64.wrap (v.a + v.b))).fdiv (2 : Int)))) false = false → cnd (decide (IntKind.i64.wrap ((IntKind.u64.wrap (IntKind.i64.wrap (v.a + v.b))).fdiv (2 : Int)) < IntKind.i64.wrap (IntKind.i64.wrap (IntKind.i64.wrap ((IntKind.u64.wrap (IntKind.i64.wrap (v.a + v.b))).fdiv (2 : Int)) + v.m) - (f44z2 N v).x20))) (decide (IntKind.i64.wrap (IntKind.i64.wrap (IntKind.i64.wrap ((IntKind.u64.wrap (IntKind.i64.wrap (v.a + v.b))).fdiv (2 : Int)) + v.m) - (f44z2 N v).x20) < v.b)) false = true → ∀ (i : Nat), i < v.M → (fun (j : Nat) => [SV.int IntKind.u64 (So.rot (sp v.F v.G) (f44z2 N v).x20.toNat v.m.toNat (IntKind.i64.wrap (IntKind.i64.wrap (IntKind.i64.wrap ((IntKind.u64.wrap (IntKind.i64.wrap (v.a + v.b))).fdiv (2 : Int)) + v.m) - (f44z2 N v).x20)).toNat j).fst, SV.int IntKind.u64 (So.rot (sp v.F v.G) (f44z2 N v).x20.toNat v.m.toNat (IntKind.i64.wrap (IntKind.i64.wrap (IntKind.i64.wrap ((IntKind.u64.wrap (IntKind.i64.wrap (v.a + v.b))).fdiv (2 : Int)) + v.m) - (f44z2 N v).x20)).toNat j).snd]) i = elC (fun (j : Nat) => [SV.int IntKind.u64 (So.rot (sp v.F v.G) (f44z2 N v).x20.toNat v.m.toNat (IntKind.i64.wrap (IntKind.i64.wrap (IntKind.i64.wrap ((IntKind.u64.wrap (IntKind.i64.wrap (v.a + v.b))).fdiv (2 : Int)) + v.m) - (f44z2 N v).x20)).toNat j).fst, SV.int IntKind.u64 (So.rot (sp v.F v.G) (f44z2 N v).x20.toNat v.m.toNat (IntKind.i64.wrap (IntKind.i64.wrap (IntKind.i64.wrap ((IntKind.u64.wrap (IntKind.i64.wrap (v.a + v.b))).fdiv (2 : Int)) + v.m) - (f44z2 N v).x20)).toNat j).snd]) (0:Nat) [Ck.int IntKind.u64, Ck.int IntKind.u64] i
noncomputable def f44_23 (N : Nat) (v : V44) : (Prop) := (IntKind.i64.wrap (v.m - v.a) == (1 : Int)) = false → (IntKind.i64.wrap (v.b - v.m) == (1 : Int)) = false → cnd (decide ((f44z2 N v).x20 < v.m)) (decide (v.m < IntKind.i64.wrap (IntKind.i64.wrap (IntKind.i64.wrap ((IntKind.u64.wrap (IntKind.i64.wrap (v.a + v.b))).fdiv (2 : Int)) + v.m) - (f44z2 N v).x20))) false = true → cnd (decide (v.a < (f44z2 N v).x20)) (decide ((f44z2 N v).x20 < IntKind.i64.wrap ((IntKind.u64.wrap (IntKind.i64.wrap (v.a + v.b))).fdiv (2 : Int)))) false = false → cnd (decide (IntKind.i64.wrap ((IntKind.u64.wrap (IntKind.i64.wrap (v.a + v.b))).fdiv (2 : Int)) < IntKind.i64.wrap (IntKind.i64.wrap (IntKind.i64.wrap ((IntKind.u64.wrap (IntKind.i64.wrap (v.a + v.b))).fdiv (2 : Int)) + v.m) - (f44z2 N v).x20))) (decide (IntKind.i64.wrap (IntKind.i64.wrap (IntKind.i64.wrap ((IntKind.u64.wrap (IntKind.i64.wrap (v.a + v.b))).fdiv (2 : Int)) + v.m) - (f44z2 N v).x20) < v.b)) false = true → pre44 (V44.mk v.L (IntKind.i64.wrap ((IntKind.u64.wrap (IntKind.i64.wrap (v.a + v.b))).fdiv (2 : Int))) (IntKind.i64.wrap (IntKind.i64.wrap (IntKind.i64.wrap ((IntKind.u64.wrap (IntKind.i64.wrap (v.a + v.b))).fdiv (2 : Int)) + v.m) - (f44z2 N v).x20)) v.b v.M (fun (j : Nat) => (So.rot (sp v.F v.G) (f44z2 N v).x20.toNat v.m.toNat (IntKind.i64.wrap (IntKind.i64.wrap (IntKind.i64.wrap ((IntKind.u64.wrap (IntKind.i64.wrap (v.a + v.b))).fdiv (2 : Int)) + v.m) - (f44z2 N v).x20)).toNat j).fst) fun (j : Nat) => (So.rot (sp v.F v.G) (f44z2 N v).x20.toNat v.m.toNat (IntKind.i64.wrap (IntKind.i64.wrap (IntKind.i64.wrap ((IntKind.u64.wrap (IntKind.i64.wrap (v.a + v.b))).fdiv (2 : Int)) + v.m) - (f44z2 N v).x20)).toNat j).snd) ∧ v.b - IntKind.i64.wrap ((IntKind.u64.wrap (IntKind.i64.wrap (v.a + v.b))).fdiv (2 : Int)) < (↑N : Int)
noncomputable def f44_24 (N : Nat) (v : V44) : (Prop) := (IntKind.i64.wrap (v.m - v.a) == (1 : Int)) = false → (IntKind.i64.wrap (v.b - v.m) == (1 : Int)) = false → cnd (decide ((f44z2 N v).x20 < v.m)) (decide (v.m < IntKind.i64.wrap (IntKind.i64.wrap (IntKind.i64.wrap ((IntKind.u64.wrap (IntKind.i64.wrap (v.a + v.b))).fdiv (2 : Int)) + v.m) - (f44z2 N v).x20))) false = true → cnd (decide (v.a < (f44z2 N v).x20)) (decide ((f44z2 N v).x20 < IntKind.i64.wrap ((IntKind.u64.wrap (IntKind.i64.wrap (v.a + v.b))).fdiv (2 : Int)))) false = false → cnd (decide (IntKind.i64.wrap ((IntKind.u64.wrap (IntKind.i64.wrap (v.a + v.b))).fdiv (2 : Int)) < IntKind.i64.wrap (IntKind.i64.wrap (IntKind.i64.wrap ((IntKind.u64.wrap (IntKind.i64.wrap (v.a + v.b))).fdiv (2 : Int)) + v.m) - (f44z2 N v).x20))) (decide (IntKind.i64.wrap (IntKind.i64.wrap (IntKind.i64.wrap ((IntKind.u64.wrap (IntKind.i64.wrap (v.a + v.b))).fdiv (2 : Int)) + v.m) - (f44z2 N v).x20) < v.b)) false = true → ∀ (i : Nat), scpL (0:Nat) ((fun (j : Nat) => [SV.int IntKind.u64 (So.srt (sp (fun (j : Nat) => (So.rot (sp v.F v.G) (f44z2 N v).x20.toNat v.m.toNat (IntKind.i64.wrap (IntKind.i64.wrap (IntKind.i64.wrap ((IntKind.u64.wrap (IntKind.i64.wrap (v.a + v.b))).fdiv (2 : Int)) + v.m) - (f44z2 N v).x20)).toNat j).fst) fun (j : Nat) => (So.rot (sp v.F v.G) (f44z2 N v).x20.toNat v.m.toNat (IntKind.i64.wrap (IntKind.i64.wrap (IntKind.i64.wrap ((IntKind.u64.wrap (IntKind.i64.wrap (v.a + v.b))).fdiv (2 : Int)) + v.m) - (f44z2 N v).x20)).toNat j).snd) (IntKind.i64.wrap ((IntKind.u64.wrap (IntKind.i64.wrap (v.a + v.b))).fdiv (2 : Int))).toNat v.b.toNat j).fst, SV.int IntKind.u64 (So.srt (sp (fun (j : Nat) => (So.rot (sp v.F v.G) (f44z2 N v).x20.toNat v.m.toNat (IntKind.i64.wrap (IntKind.i64.wrap (IntKind.i64.wrap ((IntKind.u64.wrap (IntKind.i64.wrap (v.a + v.b))).fdiv (2 : Int)) + v.m) - (f44z2 N v).x20)).toNat j).fst) fun (j : Nat) => (So.rot (sp v.F v.G) (f44z2 N v).x20.toNat v.m.toNat (IntKind.i64.wrap (IntKind.i64.wrap (IntKind.i64.wrap ((IntKind.u64.wrap (IntKind.i64.wrap (v.a + v.b))).fdiv (2 : Int)) + v.m) - (f44z2 N v).x20)).toNat j).snd) (IntKind.i64.wrap ((IntKind.u64.wrap (IntKind.i64.wrap (v.a + v.b))).fdiv (2 : Int))).toNat v.b.toNat j).snd]) i) = true
noncomputable def f44_25 (N : Nat) (v : V44) : (Prop) := (IntKind.i64.wrap (v.m - v.a) == (1 : Int)) = false → (IntKind.i64.wrap (v.b - v.m) == (1 : Int)) = false → cnd (decide ((f44z2 N v).x20 < v.m)) (decide (v.m < IntKind.i64.wrap (IntKind.i64.wrap (IntKind.i64.wrap ((IntKind.u64.wrap (IntKind.i64.wrap (v.a + v.b))).fdiv (2 : Int)) + v.m) - (f44z2 N v).x20))) false = false → cnd (decide (v.a < (f44z2 N v).x20)) (decide ((f44z2 N v).x20 < IntKind.i64.wrap ((IntKind.u64.wrap (IntKind.i64.wrap (v.a + v.b))).fdiv (2 : Int)))) false = true → ∀ (i : Nat), scpL (0:Nat) ((fun (j : Nat) => [SV.int IntKind.u64 (v.F j), SV.int IntKind.u64 (v.G j)]) i) = true
noncomputable def f44_26 (N : Nat) (v : V44) : (Prop) := (IntKind.i64.wrap (v.m - v.a) == (1 : Int)) = false → (IntKind.i64.wrap (v.b - v.m) == (1 : Int)) = false → cnd (decide ((f44z2 N v).x20 < v.m)) (decide (v.m < IntKind.i64.wrap (IntKind.i64.wrap (IntKind.i64.wrap ((IntKind.u64.wrap (IntKind.i64.wrap (v.a + v.b))).fdiv (2 : Int)) + v.m) - (f44z2 N v).x20))) false = false → cnd (decide (v.a < (f44z2 N v).x20)) (decide ((f44z2 N v).x20 < IntKind.i64.wrap ((IntKind.u64.wrap (IntKind.i64.wrap (v.a + v.b))).fdiv (2 : Int)))) false = true → ∀ (i : Nat), i < v.M → (fun (j : Nat) => [SV.int IntKind.u64 (v.F j), SV.int IntKind.u64 (v.G j)]) i = elC (fun (j : Nat) => [SV.int IntKind.u64 (v.F j), SV.int IntKind.u64 (v.G j)]) (0:Nat) [Ck.int IntKind.u64, Ck.int IntKind.u64] i
noncomputable def f44_27 (N : Nat) (v : V44) : (Prop) := (IntKind.i64.wrap (v.m - v.a) == (1 : Int)) = false → (IntKind.i64.wrap (v.b - v.m) == (1 : Int)) = false → cnd (decide ((f44z2 N v).x20 < v.m)) (decide (v.m < IntKind.i64.wrap (IntKind.i64.wrap (IntKind.i64.wrap ((IntKind.u64.wrap (IntKind.i64.wrap (v.a + v.b))).fdiv (2 : Int)) + v.m) - (f44z2 N v).x20))) false = false → cnd (decide (v.a < (f44z2 N v).x20)) (decide ((f44z2 N v).x20 < IntKind.i64.wrap ((IntKind.u64.wrap (IntKind.i64.wrap (v.a + v.b))).fdiv (2 : Int)))) false = true → pre44 (V44.mk v.L v.a (f44z2 N v).x20 (IntKind.i64.wrap ((IntKind.u64.wrap (IntKind.i64.wrap (v.a + v.b))).fdiv (2 : Int))) v.M v.F v.G) ∧ IntKind.i64.wrap ((IntKind.u64.wrap (IntKind.i64.wrap (v.a + v.b))).fdiv (2 : Int)) - v.a < (↑N : Int)
noncomputable def f44_28 (N : Nat) (v : V44) : (Prop) := (IntKind.i64.wrap (v.m - v.a) == (1 : Int)) = false → (IntKind.i64.wrap (v.b - v.m) == (1 : Int)) = false → cnd (decide ((f44z2 N v).x20 < v.m)) (decide (v.m < IntKind.i64.wrap (IntKind.i64.wrap (IntKind.i64.wrap ((IntKind.u64.wrap (IntKind.i64.wrap (v.a + v.b))).fdiv (2 : Int)) + v.m) - (f44z2 N v).x20))) false = false → cnd (decide (v.a < (f44z2 N v).x20)) (decide ((f44z2 N v).x20 < IntKind.i64.wrap ((IntKind.u64.wrap (IntKind.i64.wrap (v.a + v.b))).fdiv (2 : Int)))) false = true → ∀ (i : Nat), scpL (0:Nat) ((fun (j : Nat) => [SV.int IntKind.u64 (So.srt (sp v.F v.G) v.a.toNat (IntKind.i64.wrap ((IntKind.u64.wrap (IntKind.i64.wrap (v.a + v.b))).fdiv (2 : Int))).toNat j).fst, SV.int IntKind.u64 (So.srt (sp v.F v.G) v.a.toNat (IntKind.i64.wrap ((IntKind.u64.wrap (IntKind.i64.wrap (v.a + v.b))).fdiv (2 : Int))).toNat j).snd]) i) = true
noncomputable def f44_29 (N : Nat) (v : V44) : (Prop) := (IntKind.i64.wrap (v.m - v.a) == (1 : Int)) = false → (IntKind.i64.wrap (v.b - v.m) == (1 : Int)) = false → cnd (decide ((f44z2 N v).x20 < v.m)) (decide (v.m < IntKind.i64.wrap (IntKind.i64.wrap (IntKind.i64.wrap ((IntKind.u64.wrap (IntKind.i64.wrap (v.a + v.b))).fdiv (2 : Int)) + v.m) - (f44z2 N v).x20))) false = false → cnd (decide (v.a < (f44z2 N v).x20)) (decide ((f44z2 N v).x20 < IntKind.i64.wrap ((IntKind.u64.wrap (IntKind.i64.wrap (v.a + v.b))).fdiv (2 : Int)))) false = true → cnd (decide (IntKind.i64.wrap ((IntKind.u64.wrap (IntKind.i64.wrap (v.a + v.b))).fdiv (2 : Int)) < IntKind.i64.wrap (IntKind.i64.wrap (IntKind.i64.wrap ((IntKind.u64.wrap (IntKind.i64.wrap (v.a + v.b))).fdiv (2 : Int)) + v.m) - (f44z2 N v).x20))) (decide (IntKind.i64.wrap (IntKind.i64.wrap (IntKind.i64.wrap ((IntKind.u64.wrap (IntKind.i64.wrap (v.a + v.b))).fdiv (2 : Int)) + v.m) - (f44z2 N v).x20) < v.b)) false = true → ∀ (i : Nat), scpL (0:Nat) ((fun (j : Nat) => [SV.int IntKind.u64 (So.srt (sp v.F v.G) v.a.toNat (IntKind.i64.wrap ((IntKind.u64.wrap (IntKind.i64.wrap (v.a + v.b))).fdiv (2 : Int))).toNat j).fst, SV.int IntKind.u64 (So.srt (sp v.F v.G) v.a.toNat (IntKind.i64.wrap ((IntKind.u64.wrap (IntKind.i64.wrap (v.a + v.b))).fdiv (2 : Int))).toNat j).snd]) i) = true
noncomputable def f44_30 (N : Nat) (v : V44) : (Prop) := (IntKind.i64.wrap (v.m - v.a) == (1 : Int)) = false → (IntKind.i64.wrap (v.b - v.m) == (1 : Int)) = false → cnd (decide ((f44z2 N v).x20 < v.m)) (decide (v.m < IntKind.i64.wrap (IntKind.i64.wrap (IntKind.i64.wrap ((IntKind.u64.wrap (IntKind.i64.wrap (v.a + v.b))).fdiv (2 : Int)) + v.m) - (f44z2 N v).x20))) false = false → cnd (decide (v.a < (f44z2 N v).x20)) (decide ((f44z2 N v).x20 < IntKind.i64.wrap ((IntKind.u64.wrap (IntKind.i64.wrap (v.a + v.b))).fdiv (2 : Int)))) false = true → cnd (decide (IntKind.i64.wrap ((IntKind.u64.wrap (IntKind.i64.wrap (v.a + v.b))).fdiv (2 : Int)) < IntKind.i64.wrap (IntKind.i64.wrap (IntKind.i64.wrap ((IntKind.u64.wrap (IntKind.i64.wrap (v.a + v.b))).fdiv (2 : Int)) + v.m) - (f44z2 N v).x20))) (decide (IntKind.i64.wrap (IntKind.i64.wrap (IntKind.i64.wrap ((IntKind.u64.wrap (IntKind.i64.wrap (v.a + v.b))).fdiv (2 : Int)) + v.m) - (f44z2 N v).x20) < v.b)) false = true → ∀ (i : Nat), i < v.M → (fun (j : Nat) => [SV.int IntKind.u64 (So.srt (sp v.F v.G) v.a.toNat (IntKind.i64.wrap ((IntKind.u64.wrap (IntKind.i64.wrap (v.a + v.b))).fdiv (2 : Int))).toNat j).fst, SV.int IntKind.u64 (So.srt (sp v.F v.G) v.a.toNat (IntKind.i64.wrap ((IntKind.u64.wrap (IntKind.i64.wrap (v.a + v.b))).fdiv (2 : Int))).toNat j).snd]) i = elC (fun (j : Nat) => [SV.int IntKind.u64 (So.srt (sp v.F v.G) v.a.toNat (IntKind.i64.wrap ((IntKind.u64.wrap (IntKind.i64.wrap (v.a + v.b))).fdiv (2 : Int))).toNat j).fst, SV.int IntKind.u64 (So.srt (sp v.F v.G) v.a.toNat (IntKind.i64.wrap ((IntKind.u64.wrap (IntKind.i64.wrap (v.a + v.b))).fdiv (2 : Int))).toNat j).snd]) (0:Nat) [Ck.int IntKind.u64, Ck.int IntKind.u64] i
noncomputable def f44_31 (N : Nat) (v : V44) : (Prop) := (IntKind.i64.wrap (v.m - v.a) == (1 : Int)) = false → (IntKind.i64.wrap (v.b - v.m) == (1 : Int)) = false → cnd (decide ((f44z2 N v).x20 < v.m)) (decide (v.m < IntKind.i64.wrap (IntKind.i64.wrap (IntKind.i64.wrap ((IntKind.u64.wrap (IntKind.i64.wrap (v.a + v.b))).fdiv (2 : Int)) + v.m) - (f44z2 N v).x20))) false = false → cnd (decide (v.a < (f44z2 N v).x20)) (decide ((f44z2 N v).x20 < IntKind.i64.wrap ((IntKind.u64.wrap (IntKind.i64.wrap (v.a + v.b))).fdiv (2 : Int)))) false = true → cnd (decide (IntKind.i64.wrap ((IntKind.u64.wrap (IntKind.i64.wrap (v.a + v.b))).fdiv (2 : Int)) < IntKind.i64.wrap (IntKind.i64.wrap (IntKind.i64.wrap ((IntKind.u64.wrap (IntKind.i64.wrap (v.a + v.b))).fdiv (2 : Int)) + v.m) - (f44z2 N v).x20))) (decide (IntKind.i64.wrap (IntKind.i64.wrap (IntKind.i64.wrap ((IntKind.u64.wrap (IntKind.i64.wrap (v.a + v.b))).fdiv (2 : Int)) + v.m) - (f44z2 N v).x20) < v.b)) false = true → pre44 (V44.mk v.L (IntKind.i64.wrap ((IntKind.u64.wrap (IntKind.i64.wrap (v.a + v.b))).fdiv (2 : Int))) (IntKind.i64.wrap (IntKind.i64.wrap (IntKind.i64.wrap ((IntKind.u64.wrap (IntKind.i64.wrap (v.a + v.b))).fdiv (2 : Int)) + v.m) - (f44z2 N v).x20)) v.b v.M (fun (j : Nat) => (So.srt (sp v.F v.G) v.a.toNat (IntKind.i64.wrap ((IntKind.u64.wrap (IntKind.i64.wrap (v.a + v.b))).fdiv (2 : Int))).toNat j).fst) fun (j : Nat) => (So.srt (sp v.F v.G) v.a.toNat (IntKind.i64.wrap ((IntKind.u64.wrap (IntKind.i64.wrap (v.a + v.b))).fdiv (2 : Int))).toNat j).snd) ∧ v.b - IntKind.i64.wrap ((IntKind.u64.wrap (IntKind.i64.wrap (v.a + v.b))).fdiv (2 : Int)) < (↑N : Int)
noncomputable def f44_32 (N : Nat) (v : V44) : (Prop) := (IntKind.i64.wrap (v.m - v.a) == (1 : Int)) = false → (IntKind.i64.wrap (v.b - v.m) == (1 : Int)) = false → cnd (decide ((f44z2 N v).x20 < v.m)) (decide (v.m < IntKind.i64.wrap (IntKind.i64.wrap (IntKind.i64.wrap ((IntKind.u64.wrap (IntKind.i64.wrap (v.a + v.b))).fdiv (2 : Int)) + v.m) - (f44z2 N v).x20))) false = false → cnd (decide (v.a < (f44z2 N v).x20)) (decide ((f44z2 N v).x20 < IntKind.i64.wrap ((IntKind.u64.wrap (IntKind.i64.wrap (v.a + v.b))).fdiv (2 : Int)))) false = true → cnd (decide (IntKind.i64.wrap ((IntKind.u64.wrap (IntKind.i64.wrap (v.a + v.b))).fdiv (2 : Int)) < IntKind.i64.wrap (IntKind.i64.wrap (IntKind.i64.wrap ((IntKind.u64.wrap (IntKind.i64.wrap (v.a + v.b))).fdiv (2 : Int)) + v.m) - (f44z2 N v).x20))) (decide (IntKind.i64.wrap (IntKind.i64.wrap (IntKind.i64.wrap ((IntKind.u64.wrap (IntKind.i64.wrap (v.a + v.b))).fdiv (2 : Int)) + v.m) - (f44z2 N v).x20) < v.b)) false = true → ∀ (i : Nat), scpL (0:Nat) ((fun (j : Nat) => [SV.int IntKind.u64 (So.srt (sp (fun (j : Nat) => (So.srt (sp v.F v.G) v.a.toNat (IntKind.i64.wrap ((IntKind.u64.wrap (IntKind.i64.wrap (v.a + v.b))).fdiv (2 : Int))).toNat j).fst) fun (j : Nat) => (So.srt (sp v.F v.G) v.a.toNat (IntKind.i64.wrap ((IntKind.u64.wrap (IntKind.i64.wrap (v.a + v.b))).fdiv (2 : Int))).toNat j).snd) (IntKind.i64.wrap ((IntKind.u64.wrap (IntKind.i64.wrap (v.a + v.b))).fdiv (2 : Int))).toNat v.b.toNat j).fst, SV.int IntKind.u64 (So.srt (sp (fun (j : Nat) => (So.srt (sp v.F v.G) v.a.toNat (IntKind.i64.wrap ((IntKind.u64.wrap (IntKind.i64.wrap (v.a + v.b))).fdiv (2 : Int))).toNat j).fst) fun (j : Nat) => (So.srt (sp v.F v.G) v.a.toNat (IntKind.i64.wrap ((IntKind.u64.wrap (IntKind.i64.wrap (v.a + v.b))).fdiv (2 : Int))).toNat j).snd) (IntKind.i64.wrap ((IntKind.u64.wrap (IntKind.i64.wrap (v.a + v.b))).fdiv (2 : Int))).toNat v.b.toNat j).snd]) i) = true
noncomputable def f44_33 (N : Nat) (v : V44) : (Prop) := (IntKind.i64.wrap (v.m - v.a) == (1 : Int)) = false → (IntKind.i64.wrap (v.b - v.m) == (1 : Int)) = false → cnd (decide ((f44z2 N v).x20 < v.m)) (decide (v.m < IntKind.i64.wrap (IntKind.i64.wrap (IntKind.i64.wrap ((IntKind.u64.wrap (IntKind.i64.wrap (v.a + v.b))).fdiv (2 : Int)) + v.m) - (f44z2 N v).x20))) false = false → cnd (decide (v.a < (f44z2 N v).x20)) (decide ((f44z2 N v).x20 < IntKind.i64.wrap ((IntKind.u64.wrap (IntKind.i64.wrap (v.a + v.b))).fdiv (2 : Int)))) false = false → cnd (decide (IntKind.i64.wrap ((IntKind.u64.wrap (IntKind.i64.wrap (v.a + v.b))).fdiv (2 : Int)) < IntKind.i64.wrap (IntKind.i64.wrap (IntKind.i64.wrap ((IntKind.u64.wrap (IntKind.i64.wrap (v.a + v.b))).fdiv (2 : Int)) + v.m) - (f44z2 N v).x20))) (decide (IntKind.i64.wrap (IntKind.i64.wrap (IntKind.i64.wrap ((IntKind.u64.wrap (IntKind.i64.wrap (v.a + v.b))).fdiv (2 : Int)) + v.m) - (f44z2 N v).x20) < v.b)) false = true → ∀ (i : Nat), scpL (0:Nat) ((fun (j : Nat) => [SV.int IntKind.u64 (v.F j), SV.int IntKind.u64 (v.G j)]) i) = true
noncomputable def f44_34 (N : Nat) (v : V44) : (Prop) := (IntKind.i64.wrap (v.m - v.a) == (1 : Int)) = false → (IntKind.i64.wrap (v.b - v.m) == (1 : Int)) = false → cnd (decide ((f44z2 N v).x20 < v.m)) (decide (v.m < IntKind.i64.wrap (IntKind.i64.wrap (IntKind.i64.wrap ((IntKind.u64.wrap (IntKind.i64.wrap (v.a + v.b))).fdiv (2 : Int)) + v.m) - (f44z2 N v).x20))) false = false → cnd (decide (v.a < (f44z2 N v).x20)) (decide ((f44z2 N v).x20 < IntKind.i64.wrap ((IntKind.u64.wrap (IntKind.i64.wrap (v.a + v.b))).fdiv (2 : Int)))) false = false → cnd (decide (IntKind.i64.wrap ((IntKind.u64.wrap (IntKind.i64.wrap (v.a + v.b))).fdiv (2 : Int)) < IntKind.i64.wrap (IntKind.i64.wrap (IntKind.i64.wrap ((IntKind.u64.wrap (IntKind.i64.wrap (v.a + v.b))).fdiv (2 : Int)) + v.m) - (f44z2 N v).x20))) (decide (IntKind.i64.wrap (IntKind.i64.wrap (IntKind.i64.wrap ((IntKind.u64.wrap (IntKind.i64.wrap (v.a + v.b))).fdiv (2 : Int)) + v.m) - (f44z2 N v).x20) < v.b)) false = true → ∀ (i : Nat), i < v.M → (fun (j : Nat) => [SV.int IntKind.u64 (v.F j), SV.int IntKind.u64 (v.G j)]) i = elC (fun (j : Nat) => [SV.int IntKind.u64 (v.F j), SV.int IntKind.u64 (v.G j)]) (0:Nat) [Ck.int IntKind.u64, Ck.int IntKind.u64] i
noncomputable def f44_35 (N : Nat) (v : V44) : (Prop) := (IntKind.i64.wrap (v.m - v.a) == (1 : Int)) = false → (IntKind.i64.wrap (v.b - v.m) == (1 : Int)) = false → cnd (decide ((f44z2 N v).x20 < v.m)) (decide (v.m < IntKind.i64.wrap (IntKind.i64.wrap (IntKind.i64.wrap ((IntKind.u64.wrap (IntKind.i64.wrap (v.a + v.b))).fdiv (2 : Int)) + v.m) - (f44z2 N v).x20))) false = false → cnd (decide (v.a < (f44z2 N v).x20)) (decide ((f44z2 N v).x20 < IntKind.i64.wrap ((IntKind.u64.wrap (IntKind.i64.wrap (v.a + v.b))).fdiv (2 : Int)))) false = false → cnd (decide (IntKind.i64.wrap ((IntKind.u64.wrap (IntKind.i64.wrap (v.a + v.b))).fdiv (2 : Int)) < IntKind.i64.wrap (IntKind.i64.wrap (IntKind.i64.wrap ((IntKind.u64.wrap (IntKind.i64.wrap (v.a + v.b))).fdiv (2 : Int)) + v.m) - (f44z2 N v).x20))) (decide (IntKind.i64.wrap (IntKind.i64.wrap (IntKind.i64.wrap ((IntKind.u64.wrap (IntKind.i64.wrap (v.a + v.b))).fdiv (2 : Int)) + v.m) - (f44z2 N v).x20) < v.b)) false = true → pre44 (V44.mk v.L (IntKind.i64.wrap ((IntKind.u64.wrap (IntKind.i64.wrap (v.a + v.b))).fdiv (2 : Int))) (IntKind.i64.wrap (IntKind.i64.wrap (IntKind.i64.wrap ((IntKind.u64.wrap (IntKind.i64.wrap (v.a + v.b))).fdiv (2 : Int)) + v.m) - (f44z2 N v).x20)) v.b v.M v.F v.G) ∧ v.b - IntKind.i64.wrap ((IntKind.u64.wrap (IntKind.i64.wrap (v.a + v.b))).fdiv (2 : Int)) < (↑N : Int)
noncomputable def f44_36 (N : Nat) (v : V44) : (Prop) := (IntKind.i64.wrap (v.m - v.a) == (1 : Int)) = false → (IntKind.i64.wrap (v.b - v.m) == (1 : Int)) = false → cnd (decide ((f44z2 N v).x20 < v.m)) (decide (v.m < IntKind.i64.wrap (IntKind.i64.wrap (IntKind.i64.wrap ((IntKind.u64.wrap (IntKind.i64.wrap (v.a + v.b))).fdiv (2 : Int)) + v.m) - (f44z2 N v).x20))) false = false → cnd (decide (v.a < (f44z2 N v).x20)) (decide ((f44z2 N v).x20 < IntKind.i64.wrap ((IntKind.u64.wrap (IntKind.i64.wrap (v.a + v.b))).fdiv (2 : Int)))) false = false → cnd (decide (IntKind.i64.wrap ((IntKind.u64.wrap (IntKind.i64.wrap (v.a + v.b))).fdiv (2 : Int)) < IntKind.i64.wrap (IntKind.i64.wrap (IntKind.i64.wrap ((IntKind.u64.wrap (IntKind.i64.wrap (v.a + v.b))).fdiv (2 : Int)) + v.m) - (f44z2 N v).x20))) (decide (IntKind.i64.wrap (IntKind.i64.wrap (IntKind.i64.wrap ((IntKind.u64.wrap (IntKind.i64.wrap (v.a + v.b))).fdiv (2 : Int)) + v.m) - (f44z2 N v).x20) < v.b)) false = true → ∀ (i : Nat), scpL (0:Nat) ((fun (j : Nat) => [SV.int IntKind.u64 (So.srt (sp v.F v.G) (IntKind.i64.wrap ((IntKind.u64.wrap (IntKind.i64.wrap (v.a + v.b))).fdiv (2 : Int))).toNat v.b.toNat j).fst, SV.int IntKind.u64 (So.srt (sp v.F v.G) (IntKind.i64.wrap ((IntKind.u64.wrap (IntKind.i64.wrap (v.a + v.b))).fdiv (2 : Int))).toNat v.b.toNat j).snd]) i) = true
noncomputable def f44_37 (N : Nat) (v : V44) : (Bool) := IntKind.i64.wrap (v.m - v.a) == (1 : Int)
noncomputable def f44z3 (N : Nat) (v : V44) : S44_1 := lastS (r44_1 (P44_1.mk v.L (f44z0 N v).x10 v.M)) (S44_1.mk v.a v.F v.G)
noncomputable def f44_38 (N : Nat) (v : V44) : (Prop) := ∀ (i : Nat), scpL (1 : Nat) ((fun (j : Nat) => [SV.int IntKind.u64 ((f44z3 N v).F0_0 j), SV.int IntKind.u64 ((f44z3 N v).F0_1 j)]) i) = true
noncomputable def f44_39 (N : Nat) (v : V44) : Nat → (Int) := fun j => (f44z3 N v).F0_0 j
noncomputable def f44_40 (N : Nat) (v : V44) : Nat → (Int) := fun j => (f44z3 N v).F0_1 j
noncomputable def f44_41 (N : Nat) (v : V44) : (Bool) := IntKind.i64.wrap (v.b - v.m) == (1 : Int)
noncomputable def f44z4 (N : Nat) (v : V44) : S44_3 := lastS (r44_3 (P44_3.mk v.L (f44z1 N v).x14 v.M)) (S44_3.mk v.m v.F v.G)
noncomputable def f44_42 (N : Nat) (v : V44) : (Prop) := ∀ (i : Nat), scpL (1 : Nat) ((fun (j : Nat) => [SV.int IntKind.u64 ((f44z4 N v).F0_0 j), SV.int IntKind.u64 ((f44z4 N v).F0_1 j)]) i) = true
noncomputable def f44_43 (N : Nat) (v : V44) : Nat → (Int) := fun j => (f44z4 N v).F0_0 j
noncomputable def f44_44 (N : Nat) (v : V44) : Nat → (Int) := fun j => (f44z4 N v).F0_1 j
noncomputable def f44_45 (N : Nat) (v : V44) : (Bool) := cnd (decide ((f44z2 N v).x20 < v.m)) (decide (v.m < IntKind.i64.wrap (IntKind.i64.wrap (IntKind.i64.wrap ((IntKind.u64.wrap (IntKind.i64.wrap (v.a + v.b))).fdiv (2 : Int)) + v.m) - (f44z2 N v).x20))) false
noncomputable def f44_46 (N : Nat) (v : V44) : (Bool) := cnd (decide (v.a < (f44z2 N v).x20)) (decide ((f44z2 N v).x20 < IntKind.i64.wrap ((IntKind.u64.wrap (IntKind.i64.wrap (v.a + v.b))).fdiv (2 : Int)))) false
noncomputable def f44_47 (N : Nat) (v : V44) : (Bool) := cnd (decide (IntKind.i64.wrap ((IntKind.u64.wrap (IntKind.i64.wrap (v.a + v.b))).fdiv (2 : Int)) < IntKind.i64.wrap (IntKind.i64.wrap (IntKind.i64.wrap ((IntKind.u64.wrap (IntKind.i64.wrap (v.a + v.b))).fdiv (2 : Int)) + v.m) - (f44z2 N v).x20))) (decide (IntKind.i64.wrap (IntKind.i64.wrap (IntKind.i64.wrap ((IntKind.u64.wrap (IntKind.i64.wrap (v.a + v.b))).fdiv (2 : Int)) + v.m) - (f44z2 N v).x20) < v.b)) false
noncomputable def f44_48 (N : Nat) (v : V44) : (Prop) := (∀ (i : Nat), scpL (1 : Nat) ((fun (j : Nat) => [SV.int IntKind.u64 (So.srt (sp (fun (j : Nat) => (So.srt (sp (fun (j : Nat) => (So.rot (sp v.F v.G) (f44z2 N v).x20.toNat v.m.toNat (IntKind.i64.wrap (IntKind.i64.wrap (IntKind.i64.wrap ((IntKind.u64.wrap (IntKind.i64.wrap (v.a + v.b))).fdiv (2 : Int)) + v.m) - (f44z2 N v).x20)).toNat j).fst) fun (j : Nat) => (So.rot (sp v.F v.G) (f44z2 N v).x20.toNat v.m.toNat (IntKind.i64.wrap (IntKind.i64.wrap (IntKind.i64.wrap ((IntKind.u64.wrap (IntKind.i64.wrap (v.a + v.b))).fdiv (2 : Int)) + v.m) - (f44z2 N v).x20)).toNat j).snd) v.a.toNat (IntKind.i64.wrap ((IntKind.u64.wrap (IntKind.i64.wrap (v.a + v.b))).fdiv (2 : Int))).toNat j).fst) fun (j : Nat) => (So.srt (sp (fun (j : Nat) => (So.rot (sp v.F v.G) (f44z2 N v).x20.toNat v.m.toNat (IntKind.i64.wrap (IntKind.i64.wrap (IntKind.i64.wrap ((IntKind.u64.wrap (IntKind.i64.wrap (v.a + v.b))).fdiv (2 : Int)) + v.m) - (f44z2 N v).x20)).toNat j).fst) fun (j : Nat) => (So.rot (sp v.F v.G) (f44z2 N v).x20.toNat v.m.toNat (IntKind.i64.wrap (IntKind.i64.wrap (IntKind.i64.wrap ((IntKind.u64.wrap (IntKind.i64.wrap (v.a + v.b))).fdiv (2 : Int)) + v.m) - (f44z2 N v).x20)).toNat j).snd) v.a.toNat (IntKind.i64.wrap ((IntKind.u64.wrap (IntKind.i64.wrap (v.a + v.b))).fdiv (2 : Int))).toNat j).snd) (IntKind.i64.wrap ((IntKind.u64.wrap (IntKind.i64.wrap (v.a + v.b))).fdiv (2 : Int))).toNat v.b.toNat j).fst, SV.int IntKind.u64 (So.srt (sp (fun (j : Nat) => (So.srt (sp (fun (j : Nat) => (So.rot (sp v.F v.G) (f44z2 N v).x20.toNat v.m.toNat (IntKind.i64.wrap (IntKind.i64.wrap (IntKind.i64.wrap ((IntKind.u64.wrap (IntKind.i64.wrap (v.a + v.b))).fdiv (2 : Int)) + v.m) - (f44z2 N v).x20)).toNat j).fst) fun (j : Nat) => (So.rot (sp v.F v.G) (f44z2 N v).x20.toNat v.m.toNat (IntKind.i64.wrap (IntKind.i64.wrap (IntKind.i64.wrap ((IntKind.u64.wrap (IntKind.i64.wrap (v.a + v.b))).fdiv (2 : Int)) + v.m) - (f44z2 N v).x20)).toNat j).snd) v.a.toNat (IntKind.i64.wrap ((IntKind.u64.wrap (IntKind.i64.wrap (v.a + v.b))).fdiv (2 : Int))).toNat j).fst) fun (j : Nat) => (So.srt (sp (fun (j : Nat) => (So.rot (sp v.F v.G) (f44z2 N v).x20.toNat v.m.toNat (IntKind.i64.wrap (IntKind.i64.wrap (IntKind.i64.wrap ((IntKind.u64.wrap (IntKind.i64.wrap (v.a + v.b))).fdiv (2 : Int)) + v.m) - (f44z2 N v).x20)).toNat j).fst) fun (j : Nat) => (So.rot (sp v.F v.G) (f44z2 N v).x20.toNat v.m.toNat (IntKind.i64.wrap (IntKind.i64.wrap (IntKind.i64.wrap ((IntKind.u64.wrap (IntKind.i64.wrap (v.a + v.b))).fdiv (2 : Int)) + v.m) - (f44z2 N v).x20)).toNat j).snd) v.a.toNat (IntKind.i64.wrap ((IntKind.u64.wrap (IntKind.i64.wrap (v.a + v.b))).fdiv (2 : Int))).toNat j).snd) (IntKind.i64.wrap ((IntKind.u64.wrap (IntKind.i64.wrap (v.a + v.b))).fdiv (2 : Int))).toNat v.b.toNat j).snd]) i) = true) ∧ (∀ (i : Nat), scpL (1 : Nat) ((fun (j : Nat) => [SV.int IntKind.u64 (So.srt (sp (fun (j : Nat) => (So.srt (sp (fun (j : Nat) => (So.rot (sp v.F v.G) (f44z2 N v).x20.toNat v.m.toNat (IntKind.i64.wrap (IntKind.i64.wrap (IntKind.i64.wrap ((IntKind.u64.wrap (IntKind.i64.wrap (v.a + v.b))).fdiv (2 : Int)) + v.m) - (f44z2 N v).x20)).toNat j).fst) fun (j : Nat) => (So.rot (sp v.F v.G) (f44z2 N v).x20.toNat v.m.toNat (IntKind.i64.wrap (IntKind.i64.wrap (IntKind.i64.wrap ((IntKind.u64.wrap (IntKind.i64.wrap (v.a + v.b))).fdiv (2 : Int)) + v.m) - (f44z2 N v).x20)).toNat j).snd) v.a.toNat (IntKind.i64.wrap ((IntKind.u64.wrap (IntKind.i64.wrap (v.a + v.b))).fdiv (2 : Int))).toNat j).fst) fun (j : Nat) => (So.srt (sp (fun (j : Nat) => (So.rot (sp v.F v.G) (f44z2 N v).x20.toNat v.m.toNat (IntKind.i64.wrap (IntKind.i64.wrap (IntKind.i64.wrap ((IntKind.u64.wrap (IntKind.i64.wrap (v.a + v.b))).fdiv (2 : Int)) + v.m) - (f44z2 N v).x20)).toNat j).fst) fun (j : Nat) => (So.rot (sp v.F v.G) (f44z2 N v).x20.toNat v.m.toNat (IntKind.i64.wrap (IntKind.i64.wrap (IntKind.i64.wrap ((IntKind.u64.wrap (IntKind.i64.wrap (v.a + v.b))).fdiv (2 : Int)) + v.m) - (f44z2 N v).x20)).toNat j).snd) v.a.toNat (IntKind.i64.wrap ((IntKind.u64.wrap (IntKind.i64.wrap (v.a + v.b))).fdiv (2 : Int))).toNat j).snd) (IntKind.i64.wrap ((IntKind.u64.wrap (IntKind.i64.wrap (v.a + v.b))).fdiv (2 : Int))).toNat v.b.toNat j).fst, SV.int IntKind.u64 (So.srt (sp (fun (j : Nat) => (So.srt (sp (fun (j : Nat) => (So.rot (sp v.F v.G) (f44z2 N v).x20.toNat v.m.toNat (IntKind.i64.wrap (IntKind.i64.wrap (IntKind.i64.wrap ((IntKind.u64.wrap (IntKind.i64.wrap (v.a + v.b))).fdiv (2 : Int)) + v.m) - (f44z2 N v).x20)).toNat j).fst) fun (j : Nat) => (So.rot (sp v.F v.G) (f44z2 N v).x20.toNat v.m.toNat (IntKind.i64.wrap (IntKind.i64.wrap (IntKind.i64.wrap ((IntKind.u64.wrap (IntKind.i64.wrap (v.a + v.b))).fdiv (2 : Int)) + v.m) - (f44z2 N v).x20)).toNat j).snd) v.a.toNat (IntKind.i64.wrap ((IntKind.u64.wrap (IntKind.i64.wrap (v.a + v.b))).fdiv (2 : Int))).toNat j).fst) fun (j : Nat) => (So.srt (sp (fun (j : Nat) => (So.rot (sp v.F v.G) (f44z2 N v).x20.toNat v.m.toNat (IntKind.i64.wrap (IntKind.i64.wrap (IntKind.i64.wrap ((IntKind.u64.wrap (IntKind.i64.wrap (v.a + v.b))).fdiv (2 : Int)) + v.m) - (f44z2 N v).x20)).toNat j).fst) fun (j : Nat) => (So.rot (sp v.F v.G) (f44z2 N v).x20.toNat v.m.toNat (IntKind.i64.wrap (IntKind.i64.wrap (IntKind.i64.wrap ((IntKind.u64.wrap (IntKind.i64.wrap (v.a + v.b))).fdiv (2 : Int)) + v.m) - (f44z2 N v).x20)).toNat j).snd) v.a.toNat (IntKind.i64.wrap ((IntKind.u64.wrap (IntKind.i64.wrap (v.a + v.b))).fdiv (2 : Int))).toNat j).snd) (IntKind.i64.wrap ((IntKind.u64.wrap (IntKind.i64.wrap (v.a + v.b))).fdiv (2 : Int))).toNat v.b.toNat j).snd]) i) = true) ∧ ∀ (i : Nat), scpL (1 : Nat) ((fun (j : Nat) => [SV.int IntKind.u64 (So.srt (sp (fun (j : Nat) => (So.srt (sp (fun (j : Nat) => (So.rot (sp v.F v.G) (f44z2 N v).x20.toNat v.m.toNat (IntKind.i64.wrap (IntKind.i64.wrap (IntKind.i64.wrap ((IntKind.u64.wrap (IntKind.i64.wrap (v.a + v.b))).fdiv (2 : Int)) + v.m) - (f44z2 N v).x20)).toNat j).fst) fun (j : Nat) => (So.rot (sp v.F v.G) (f44z2 N v).x20.toNat v.m.toNat (IntKind.i64.wrap (IntKind.i64.wrap (IntKind.i64.wrap ((IntKind.u64.wrap (IntKind.i64.wrap (v.a + v.b))).fdiv (2 : Int)) + v.m) - (f44z2 N v).x20)).toNat j).snd) v.a.toNat (IntKind.i64.wrap ((IntKind.u64.wrap (IntKind.i64.wrap (v.a + v.b))).fdiv (2 : Int))).toNat j).fst) fun (j : Nat) => (So.srt (sp (fun (j : Nat) => (So.rot (sp v.F v.G) (f44z2 N v).x20.toNat v.m.toNat (IntKind.i64.wrap (IntKind.i64.wrap (IntKind.i64.wrap ((IntKind.u64.wrap (IntKind.i64.wrap (v.a + v.b))).fdiv (2 : Int)) + v.m) - (f44z2 N v).x20)).toNat j).fst) fun (j : Nat) => (So.rot (sp v.F v.G) (f44z2 N v).x20.toNat v.m.toNat (IntKind.i64.wrap (IntKind.i64.wrap (IntKind.i64.wrap ((IntKind.u64.wrap (IntKind.i64.wrap (v.a + v.b))).fdiv (2 : Int)) + v.m) - (f44z2 N v).x20)).toNat j).snd) v.a.toNat (IntKind.i64.wrap ((IntKind.u64.wrap (IntKind.i64.wrap (v.a + v.b))).fdiv (2 : Int))).toNat j).snd) (IntKind.i64.wrap ((IntKind.u64.wrap (IntKind.i64.wrap (v.a + v.b))).fdiv (2 : Int))).toNat v.b.toNat j).fst, SV.int IntKind.u64 (So.srt (sp (fun (j : Nat) => (So.srt (sp (fun (j : Nat) => (So.rot (sp v.F v.G) (f44z2 N v).x20.toNat v.m.toNat (IntKind.i64.wrap (IntKind.i64.wrap (IntKind.i64.wrap ((IntKind.u64.wrap (IntKind.i64.wrap (v.a + v.b))).fdiv (2 : Int)) + v.m) - (f44z2 N v).x20)).toNat j).fst) fun (j : Nat) => (So.rot (sp v.F v.G) (f44z2 N v).x20.toNat v.m.toNat (IntKind.i64.wrap (IntKind.i64.wrap (IntKind.i64.wrap ((IntKind.u64.wrap (IntKind.i64.wrap (v.a + v.b))).fdiv (2 : Int)) + v.m) - (f44z2 N v).x20)).toNat j).snd) v.a.toNat (IntKind.i64.wrap ((IntKind.u64.wrap (IntKind.i64.wrap (v.a + v.b))).fdiv (2 : Int))).toNat j).fst) fun (j : Nat) => (So.srt (sp (fun (j : Nat) => (So.rot (sp v.F v.G) (f44z2 N v).x20.toNat v.m.toNat (IntKind.i64.wrap (IntKind.i64.wrap (IntKind.i64.wrap ((IntKind.u64.wrap (IntKind.i64.wrap (v.a + v.b))).fdiv (2 : Int)) + v.m) - (f44z2 N v).x20)).toNat j).fst) fun (j : Nat) => (So.rot (sp v.F v.G) (f44z2 N v).x20.toNat v.m.toNat (IntKind.i64.wrap (IntKind.i64.wrap (IntKind.i64.wrap ((IntKind.u64.wrap (IntKind.i64.wrap (v.a + v.b))).fdiv (2 : Int)) + v.m) - (f44z2 N v).x20)).toNat j).snd) v.a.toNat (IntKind.i64.wrap ((IntKind.u64.wrap (IntKind.i64.wrap (v.a + v.b))).fdiv (2 : Int))).toNat j).snd) (IntKind.i64.wrap ((IntKind.u64.wrap (IntKind.i64.wrap (v.a + v.b))).fdiv (2 : Int))).toNat v.b.toNat j).snd]) i) = true
noncomputable def f44_49 (N : Nat) (v : V44) : Nat → (Int) := fun j => (So.srt (sp (fun (j : Nat) => (So.srt (sp (fun (j : Nat) => (So.rot (sp v.F v.G) (f44z2 N v).x20.toNat v.m.toNat (IntKind.i64.wrap (IntKind.i64.wrap (IntKind.i64.wrap ((IntKind.u64.wrap (IntKind.i64.wrap (v.a + v.b))).fdiv (2 : Int)) + v.m) - (f44z2 N v).x20)).toNat j).fst) fun (j : Nat) => (So.rot (sp v.F v.G) (f44z2 N v).x20.toNat v.m.toNat (IntKind.i64.wrap (IntKind.i64.wrap (IntKind.i64.wrap ((IntKind.u64.wrap (IntKind.i64.wrap (v.a + v.b))).fdiv (2 : Int)) + v.m) - (f44z2 N v).x20)).toNat j).snd) v.a.toNat (IntKind.i64.wrap ((IntKind.u64.wrap (IntKind.i64.wrap (v.a + v.b))).fdiv (2 : Int))).toNat j).fst) fun (j : Nat) => (So.srt (sp (fun (j : Nat) => (So.rot (sp v.F v.G) (f44z2 N v).x20.toNat v.m.toNat (IntKind.i64.wrap (IntKind.i64.wrap (IntKind.i64.wrap ((IntKind.u64.wrap (IntKind.i64.wrap (v.a + v.b))).fdiv (2 : Int)) + v.m) - (f44z2 N v).x20)).toNat j).fst) fun (j : Nat) => (So.rot (sp v.F v.G) (f44z2 N v).x20.toNat v.m.toNat (IntKind.i64.wrap (IntKind.i64.wrap (IntKind.i64.wrap ((IntKind.u64.wrap (IntKind.i64.wrap (v.a + v.b))).fdiv (2 : Int)) + v.m) - (f44z2 N v).x20)).toNat j).snd) v.a.toNat (IntKind.i64.wrap ((IntKind.u64.wrap (IntKind.i64.wrap (v.a + v.b))).fdiv (2 : Int))).toNat j).snd) (IntKind.i64.wrap ((IntKind.u64.wrap (IntKind.i64.wrap (v.a + v.b))).fdiv (2 : Int))).toNat v.b.toNat j).fst
noncomputable def f44_50 (N : Nat) (v : V44) : Nat → (Int) := fun j => (So.srt (sp (fun (j : Nat) => (So.srt (sp (fun (j : Nat) => (So.rot (sp v.F v.G) (f44z2 N v).x20.toNat v.m.toNat (IntKind.i64.wrap (IntKind.i64.wrap (IntKind.i64.wrap ((IntKind.u64.wrap (IntKind.i64.wrap (v.a + v.b))).fdiv (2 : Int)) + v.m) - (f44z2 N v).x20)).toNat j).fst) fun (j : Nat) => (So.rot (sp v.F v.G) (f44z2 N v).x20.toNat v.m.toNat (IntKind.i64.wrap (IntKind.i64.wrap (IntKind.i64.wrap ((IntKind.u64.wrap (IntKind.i64.wrap (v.a + v.b))).fdiv (2 : Int)) + v.m) - (f44z2 N v).x20)).toNat j).snd) v.a.toNat (IntKind.i64.wrap ((IntKind.u64.wrap (IntKind.i64.wrap (v.a + v.b))).fdiv (2 : Int))).toNat j).fst) fun (j : Nat) => (So.srt (sp (fun (j : Nat) => (So.rot (sp v.F v.G) (f44z2 N v).x20.toNat v.m.toNat (IntKind.i64.wrap (IntKind.i64.wrap (IntKind.i64.wrap ((IntKind.u64.wrap (IntKind.i64.wrap (v.a + v.b))).fdiv (2 : Int)) + v.m) - (f44z2 N v).x20)).toNat j).fst) fun (j : Nat) => (So.rot (sp v.F v.G) (f44z2 N v).x20.toNat v.m.toNat (IntKind.i64.wrap (IntKind.i64.wrap (IntKind.i64.wrap ((IntKind.u64.wrap (IntKind.i64.wrap (v.a + v.b))).fdiv (2 : Int)) + v.m) - (f44z2 N v).x20)).toNat j).snd) v.a.toNat (IntKind.i64.wrap ((IntKind.u64.wrap (IntKind.i64.wrap (v.a + v.b))).fdiv (2 : Int))).toNat j).snd) (IntKind.i64.wrap ((IntKind.u64.wrap (IntKind.i64.wrap (v.a + v.b))).fdiv (2 : Int))).toNat v.b.toNat j).snd
noncomputable def f44_51 (N : Nat) (v : V44) : (Prop) := (∀ (i : Nat), scpL (1 : Nat) ((fun (j : Nat) => [SV.int IntKind.u64 (So.srt (sp (fun (j : Nat) => (So.rot (sp v.F v.G) (f44z2 N v).x20.toNat v.m.toNat (IntKind.i64.wrap (IntKind.i64.wrap (IntKind.i64.wrap ((IntKind.u64.wrap (IntKind.i64.wrap (v.a + v.b))).fdiv (2 : Int)) + v.m) - (f44z2 N v).x20)).toNat j).fst) fun (j : Nat) => (So.rot (sp v.F v.G) (f44z2 N v).x20.toNat v.m.toNat (IntKind.i64.wrap (IntKind.i64.wrap (IntKind.i64.wrap ((IntKind.u64.wrap (IntKind.i64.wrap (v.a + v.b))).fdiv (2 : Int)) + v.m) - (f44z2 N v).x20)).toNat j).snd) v.a.toNat (IntKind.i64.wrap ((IntKind.u64.wrap (IntKind.i64.wrap (v.a + v.b))).fdiv (2 : Int))).toNat j).fst, SV.int IntKind.u64 (So.srt (sp (fun (j : Nat) => (So.rot (sp v.F v.G) (f44z2 N v).x20.toNat v.m.toNat (IntKind.i64.wrap (IntKind.i64.wrap (IntKind.i64.wrap ((IntKind.u64.wrap (IntKind.i64.wrap (v.a + v.b))).fdiv (2 : Int)) + v.m) - (f44z2 N v).x20)).toNat j).fst) fun (j : Nat) => (So.rot (sp v.F v.G) (f44z2 N v).x20.toNat v.m.toNat (IntKind.i64.wrap (IntKind.i64.wrap (IntKind.i64.wrap ((IntKind.u64.wrap (IntKind.i64.wrap (v.a + v.b))).fdiv (2 : Int)) + v.m) - (f44z2 N v).x20)).toNat j).snd) v.a.toNat (IntKind.i64.wrap ((IntKind.u64.wrap (IntKind.i64.wrap (v.a + v.b))).fdiv (2 : Int))).toNat j).snd]) i) = true) ∧ ∀ (i : Nat), scpL (1 : Nat) ((fun (j : Nat) => [SV.int IntKind.u64 (So.srt (sp (fun (j : Nat) => (So.rot (sp v.F v.G) (f44z2 N v).x20.toNat v.m.toNat (IntKind.i64.wrap (IntKind.i64.wrap (IntKind.i64.wrap ((IntKind.u64.wrap (IntKind.i64.wrap (v.a + v.b))).fdiv (2 : Int)) + v.m) - (f44z2 N v).x20)).toNat j).fst) fun (j : Nat) => (So.rot (sp v.F v.G) (f44z2 N v).x20.toNat v.m.toNat (IntKind.i64.wrap (IntKind.i64.wrap (IntKind.i64.wrap ((IntKind.u64.wrap (IntKind.i64.wrap (v.a + v.b))).fdiv (2 : Int)) + v.m) - (f44z2 N v).x20)).toNat j).snd) v.a.toNat (IntKind.i64.wrap ((IntKind.u64.wrap (IntKind.i64.wrap (v.a + v.b))).fdiv (2 : Int))).toNat j).fst, SV.int IntKind.u64 (So.srt (sp (fun (j : Nat) => (So.rot (sp v.F v.G) (f44z2 N v).x20.toNat v.m.toNat (IntKind.i64.wrap (IntKind.i64.wrap (IntKind.i64.wrap ((IntKind.u64.wrap (IntKind.i64.wrap (v.a + v.b))).fdiv (2 : Int)) + v.m) - (f44z2 N v).x20)).toNat j).fst) fun (j : Nat) => (So.rot (sp v.F v.G) (f44z2 N v).x20.toNat v.m.toNat (IntKind.i64.wrap (IntKind.i64.wrap (IntKind.i64.wrap ((IntKind.u64.wrap (IntKind.i64.wrap (v.a + v.b))).fdiv (2 : Int)) + v.m) - (f44z2 N v).x20)).toNat j).snd) v.a.toNat (IntKind.i64.wrap ((IntKind.u64.wrap (IntKind.i64.wrap (v.a + v.b))).fdiv (2 : Int))).toNat j).snd]) i) = true
noncomputable def f44_52 (N : Nat) (v : V44) : Nat → (Int) := fun j => (So.srt (sp (fun (j : Nat) => (So.rot (sp v.F v.G) (f44z2 N v).x20.toNat v.m.toNat (IntKind.i64.wrap (IntKind.i64.wrap (IntKind.i64.wrap ((IntKind.u64.wrap (IntKind.i64.wrap (v.a + v.b))).fdiv (2 : Int)) + v.m) - (f44z2 N v).x20)).toNat j).fst) fun (j : Nat) => (So.rot (sp v.F v.G) (f44z2 N v).x20.toNat v.m.toNat (IntKind.i64.wrap (IntKind.i64.wrap (IntKind.i64.wrap ((IntKind.u64.wrap (IntKind.i64.wrap (v.a + v.b))).fdiv (2 : Int)) + v.m) - (f44z2 N v).x20)).toNat j).snd) v.a.toNat (IntKind.i64.wrap ((IntKind.u64.wrap (IntKind.i64.wrap (v.a + v.b))).fdiv (2 : Int))).toNat j).fst
noncomputable def f44_53 (N : Nat) (v : V44) : Nat → (Int) := fun j => (So.srt (sp (fun (j : Nat) => (So.rot (sp v.F v.G) (f44z2 N v).x20.toNat v.m.toNat (IntKind.i64.wrap (IntKind.i64.wrap (IntKind.i64.wrap ((IntKind.u64.wrap (IntKind.i64.wrap (v.a + v.b))).fdiv (2 : Int)) + v.m) - (f44z2 N v).x20)).toNat j).fst) fun (j : Nat) => (So.rot (sp v.F v.G) (f44z2 N v).x20.toNat v.m.toNat (IntKind.i64.wrap (IntKind.i64.wrap (IntKind.i64.wrap ((IntKind.u64.wrap (IntKind.i64.wrap (v.a + v.b))).fdiv (2 : Int)) + v.m) - (f44z2 N v).x20)).toNat j).snd) v.a.toNat (IntKind.i64.wrap ((IntKind.u64.wrap (IntKind.i64.wrap (v.a + v.b))).fdiv (2 : Int))).toNat j).snd
noncomputable def f44_54 (N : Nat) (v : V44) : (Prop) := (∀ (i : Nat), scpL (1 : Nat) ((fun (j : Nat) => [SV.int IntKind.u64 (So.srt (sp (fun (j : Nat) => (So.rot (sp v.F v.G) (f44z2 N v).x20.toNat v.m.toNat (IntKind.i64.wrap (IntKind.i64.wrap (IntKind.i64.wrap ((IntKind.u64.wrap (IntKind.i64.wrap (v.a + v.b))).fdiv (2 : Int)) + v.m) - (f44z2 N v).x20)).toNat j).fst) fun (j : Nat) => (So.rot (sp v.F v.G) (f44z2 N v).x20.toNat v.m.toNat (IntKind.i64.wrap (IntKind.i64.wrap (IntKind.i64.wrap ((IntKind.u64.wrap (IntKind.i64.wrap (v.a + v.b))).fdiv (2 : Int)) + v.m) - (f44z2 N v).x20)).toNat j).snd) (IntKind.i64.wrap ((IntKind.u64.wrap (IntKind.i64.wrap (v.a + v.b))).fdiv (2 : Int))).toNat v.b.toNat j).fst, SV.int IntKind.u64 (So.srt (sp (fun (j : Nat) => (So.rot (sp v.F v.G) (f44z2 N v).x20.toNat v.m.toNat (IntKind.i64.wrap (IntKind.i64.wrap (IntKind.i64.wrap ((IntKind.u64.wrap (IntKind.i64.wrap (v.a + v.b))).fdiv (2 : Int)) + v.m) - (f44z2 N v).x20)).toNat j).fst) fun (j : Nat) => (So.rot (sp v.F v.G) (f44z2 N v).x20.toNat v.m.toNat (IntKind.i64.wrap (IntKind.i64.wrap (IntKind.i64.wrap ((IntKind.u64.wrap (IntKind.i64.wrap (v.a + v.b))).fdiv (2 : Int)) + v.m) - (f44z2 N v).x20)).toNat j).snd) (IntKind.i64.wrap ((IntKind.u64.wrap (IntKind.i64.wrap (v.a + v.b))).fdiv (2 : Int))).toNat v.b.toNat j).snd]) i) = true) ∧ ∀ (i : Nat), scpL (1 : Nat) ((fun (j : Nat) => [SV.int IntKind.u64 (So.srt (sp (fun (j : Nat) => (So.rot (sp v.F v.G) (f44z2 N v).x20.toNat v.m.toNat (IntKind.i64.wrap (IntKind.i64.wrap (IntKind.i64.wrap ((IntKind.u64.wrap (IntKind.i64.wrap (v.a + v.b))).fdiv (2 : Int)) + v.m) - (f44z2 N v).x20)).toNat j).fst) fun (j : Nat) => (So.rot (sp v.F v.G) (f44z2 N v).x20.toNat v.m.toNat (IntKind.i64.wrap (IntKind.i64.wrap (IntKind.i64.wrap ((IntKind.u64.wrap (IntKind.i64.wrap (v.a + v.b))).fdiv (2 : Int)) + v.m) - (f44z2 N v).x20)).toNat j).snd) (IntKind.i64.wrap ((IntKind.u64.wrap (IntKind.i64.wrap (v.a + v.b))).fdiv (2 : Int))).toNat v.b.toNat j).fst, SV.int IntKind.u64 (So.srt (sp (fun (j : Nat) => (So.rot (sp v.F v.G) (f44z2 N v).x20.toNat v.m.toNat (IntKind.i64.wrap (IntKind.i64.wrap (IntKind.i64.wrap ((IntKind.u64.wrap (IntKind.i64.wrap (v.a + v.b))).fdiv (2 : Int)) + v.m) - (f44z2 N v).x20)).toNat j).fst) fun (j : Nat) => (So.rot (sp v.F v.G) (f44z2 N v).x20.toNat v.m.toNat (IntKind.i64.wrap (IntKind.i64.wrap (IntKind.i64.wrap ((IntKind.u64.wrap (IntKind.i64.wrap (v.a + v.b))).fdiv (2 : Int)) + v.m) - (f44z2 N v).x20)).toNat j).snd) (IntKind.i64.wrap ((IntKind.u64.wrap (IntKind.i64.wrap (v.a + v.b))).fdiv (2 : Int))).toNat v.b.toNat j).snd]) i) = true
noncomputable def f44_55 (N : Nat) (v : V44) : Nat → (Int) := fun j => (So.srt (sp (fun (j : Nat) => (So.rot (sp v.F v.G) (f44z2 N v).x20.toNat v.m.toNat (IntKind.i64.wrap (IntKind.i64.wrap (IntKind.i64.wrap ((IntKind.u64.wrap (IntKind.i64.wrap (v.a + v.b))).fdiv (2 : Int)) + v.m) - (f44z2 N v).x20)).toNat j).fst) fun (j : Nat) => (So.rot (sp v.F v.G) (f44z2 N v).x20.toNat v.m.toNat (IntKind.i64.wrap (IntKind.i64.wrap (IntKind.i64.wrap ((IntKind.u64.wrap (IntKind.i64.wrap (v.a + v.b))).fdiv (2 : Int)) + v.m) - (f44z2 N v).x20)).toNat j).snd) (IntKind.i64.wrap ((IntKind.u64.wrap (IntKind.i64.wrap (v.a + v.b))).fdiv (2 : Int))).toNat v.b.toNat j).fst
noncomputable def f44_56 (N : Nat) (v : V44) : Nat → (Int) := fun j => (So.srt (sp (fun (j : Nat) => (So.rot (sp v.F v.G) (f44z2 N v).x20.toNat v.m.toNat (IntKind.i64.wrap (IntKind.i64.wrap (IntKind.i64.wrap ((IntKind.u64.wrap (IntKind.i64.wrap (v.a + v.b))).fdiv (2 : Int)) + v.m) - (f44z2 N v).x20)).toNat j).fst) fun (j : Nat) => (So.rot (sp v.F v.G) (f44z2 N v).x20.toNat v.m.toNat (IntKind.i64.wrap (IntKind.i64.wrap (IntKind.i64.wrap ((IntKind.u64.wrap (IntKind.i64.wrap (v.a + v.b))).fdiv (2 : Int)) + v.m) - (f44z2 N v).x20)).toNat j).snd) (IntKind.i64.wrap ((IntKind.u64.wrap (IntKind.i64.wrap (v.a + v.b))).fdiv (2 : Int))).toNat v.b.toNat j).snd
noncomputable def f44_57 (N : Nat) (v : V44) : (Prop) := ∀ (i : Nat), scpL (1 : Nat) ((fun (j : Nat) => [SV.int IntKind.u64 (So.rot (sp v.F v.G) (f44z2 N v).x20.toNat v.m.toNat (IntKind.i64.wrap (IntKind.i64.wrap (IntKind.i64.wrap ((IntKind.u64.wrap (IntKind.i64.wrap (v.a + v.b))).fdiv (2 : Int)) + v.m) - (f44z2 N v).x20)).toNat j).fst, SV.int IntKind.u64 (So.rot (sp v.F v.G) (f44z2 N v).x20.toNat v.m.toNat (IntKind.i64.wrap (IntKind.i64.wrap (IntKind.i64.wrap ((IntKind.u64.wrap (IntKind.i64.wrap (v.a + v.b))).fdiv (2 : Int)) + v.m) - (f44z2 N v).x20)).toNat j).snd]) i) = true
noncomputable def f44_58 (N : Nat) (v : V44) : Nat → (Int) := fun j => (So.rot (sp v.F v.G) (f44z2 N v).x20.toNat v.m.toNat (IntKind.i64.wrap (IntKind.i64.wrap (IntKind.i64.wrap ((IntKind.u64.wrap (IntKind.i64.wrap (v.a + v.b))).fdiv (2 : Int)) + v.m) - (f44z2 N v).x20)).toNat j).fst
noncomputable def f44_59 (N : Nat) (v : V44) : Nat → (Int) := fun j => (So.rot (sp v.F v.G) (f44z2 N v).x20.toNat v.m.toNat (IntKind.i64.wrap (IntKind.i64.wrap (IntKind.i64.wrap ((IntKind.u64.wrap (IntKind.i64.wrap (v.a + v.b))).fdiv (2 : Int)) + v.m) - (f44z2 N v).x20)).toNat j).snd
noncomputable def f44_60 (N : Nat) (v : V44) : (Prop) := (∀ (i : Nat), scpL (1 : Nat) ((fun (j : Nat) => [SV.int IntKind.u64 (So.srt (sp (fun (j : Nat) => (So.srt (sp v.F v.G) v.a.toNat (IntKind.i64.wrap ((IntKind.u64.wrap (IntKind.i64.wrap (v.a + v.b))).fdiv (2 : Int))).toNat j).fst) fun (j : Nat) => (So.srt (sp v.F v.G) v.a.toNat (IntKind.i64.wrap ((IntKind.u64.wrap (IntKind.i64.wrap (v.a + v.b))).fdiv (2 : Int))).toNat j).snd) (IntKind.i64.wrap ((IntKind.u64.wrap (IntKind.i64.wrap (v.a + v.b))).fdiv (2 : Int))).toNat v.b.toNat j).fst, SV.int IntKind.u64 (So.srt (sp (fun (j : Nat) => (So.srt (sp v.F v.G) v.a.toNat (IntKind.i64.wrap ((IntKind.u64.wrap (IntKind.i64.wrap (v.a + v.b))).fdiv (2 : Int))).toNat j).fst) fun (j : Nat) => (So.srt (sp v.F v.G) v.a.toNat (IntKind.i64.wrap ((IntKind.u64.wrap (IntKind.i64.wrap (v.a + v.b))).fdiv (2 : Int))).toNat j).snd) (IntKind.i64.wrap ((IntKind.u64.wrap (IntKind.i64.wrap (v.a + v.b))).fdiv (2 : Int))).toNat v.b.toNat j).snd]) i) = true) ∧ ∀ (i : Nat), scpL (1 : Nat) ((fun (j : Nat) => [SV.int IntKind.u64 (So.srt (sp (fun (j : Nat) => (So.srt (sp v.F v.G) v.a.toNat (IntKind.i64.wrap ((IntKind.u64.wrap (IntKind.i64.wrap (v.a + v.b))).fdiv (2 : Int))).toNat j).fst) fun (j : Nat) => (So.srt (sp v.F v.G) v.a.toNat (IntKind.i64.wrap ((IntKind.u64.wrap (IntKind.i64.wrap (v.a + v.b))).fdiv (2 : Int))).toNat j).snd) (IntKind.i64.wrap ((IntKind.u64.wrap (IntKind.i64.wrap (v.a + v.b))).fdiv (2 : Int))).toNat v.b.toNat j).fst, SV.int IntKind.u64 (So.srt (sp (fun (j : Nat) => (So.srt (sp v.F v.G) v.a.toNat (IntKind.i64.wrap ((IntKind.u64.wrap (IntKind.i64.wrap (v.a + v.b))).fdiv (2 : Int))).toNat j).fst) fun (j : Nat) => (So.srt (sp v.F v.G) v.a.toNat (IntKind.i64.wrap ((IntKind.u64.wrap (IntKind.i64.wrap (v.a + v.b))).fdiv (2 : Int))).toNat j).snd) (IntKind.i64.wrap ((IntKind.u64.wrap (IntKind.i64.wrap (v.a + v.b))).fdiv (2 : Int))).toNat v.b.toNat j).snd]) i) = true
noncomputable def f44_61 (N : Nat) (v : V44) : Nat → (Int) := fun j => (So.srt (sp (fun (j : Nat) => (So.srt (sp v.F v.G) v.a.toNat (IntKind.i64.wrap ((IntKind.u64.wrap (IntKind.i64.wrap (v.a + v.b))).fdiv (2 : Int))).toNat j).fst) fun (j : Nat) => (So.srt (sp v.F v.G) v.a.toNat (IntKind.i64.wrap ((IntKind.u64.wrap (IntKind.i64.wrap (v.a + v.b))).fdiv (2 : Int))).toNat j).snd) (IntKind.i64.wrap ((IntKind.u64.wrap (IntKind.i64.wrap (v.a + v.b))).fdiv (2 : Int))).toNat v.b.toNat j).fst
noncomputable def f44_62 (N : Nat) (v : V44) : Nat → (Int) := fun j => (So.srt (sp (fun (j : Nat) => (So.srt (sp v.F v.G) v.a.toNat (IntKind.i64.wrap ((IntKind.u64.wrap (IntKind.i64.wrap (v.a + v.b))).fdiv (2 : Int))).toNat j).fst) fun (j : Nat) => (So.srt (sp v.F v.G) v.a.toNat (IntKind.i64.wrap ((IntKind.u64.wrap (IntKind.i64.wrap (v.a + v.b))).fdiv (2 : Int))).toNat j).snd) (IntKind.i64.wrap ((IntKind.u64.wrap (IntKind.i64.wrap (v.a + v.b))).fdiv (2 : Int))).toNat v.b.toNat j).snd
noncomputable def f44_63 (N : Nat) (v : V44) : (Prop) := ∀ (i : Nat), scpL (1 : Nat) ((fun (j : Nat) => [SV.int IntKind.u64 (So.srt (sp v.F v.G) v.a.toNat (IntKind.i64.wrap ((IntKind.u64.wrap (IntKind.i64.wrap (v.a + v.b))).fdiv (2 : Int))).toNat j).fst, SV.int IntKind.u64 (So.srt (sp v.F v.G) v.a.toNat (IntKind.i64.wrap ((IntKind.u64.wrap (IntKind.i64.wrap (v.a + v.b))).fdiv (2 : Int))).toNat j).snd]) i) = true
noncomputable def f44_64 (N : Nat) (v : V44) : Nat → (Int) := fun j => (So.srt (sp v.F v.G) v.a.toNat (IntKind.i64.wrap ((IntKind.u64.wrap (IntKind.i64.wrap (v.a + v.b))).fdiv (2 : Int))).toNat j).fst
noncomputable def f44_65 (N : Nat) (v : V44) : Nat → (Int) := fun j => (So.srt (sp v.F v.G) v.a.toNat (IntKind.i64.wrap ((IntKind.u64.wrap (IntKind.i64.wrap (v.a + v.b))).fdiv (2 : Int))).toNat j).snd
noncomputable def f44_66 (N : Nat) (v : V44) : (Prop) := ∀ (i : Nat), scpL (1 : Nat) ((fun (j : Nat) => [SV.int IntKind.u64 (So.srt (sp v.F v.G) (IntKind.i64.wrap ((IntKind.u64.wrap (IntKind.i64.wrap (v.a + v.b))).fdiv (2 : Int))).toNat v.b.toNat j).fst, SV.int IntKind.u64 (So.srt (sp v.F v.G) (IntKind.i64.wrap ((IntKind.u64.wrap (IntKind.i64.wrap (v.a + v.b))).fdiv (2 : Int))).toNat v.b.toNat j).snd]) i) = true
noncomputable def f44_67 (N : Nat) (v : V44) : Nat → (Int) := fun j => (So.srt (sp v.F v.G) (IntKind.i64.wrap ((IntKind.u64.wrap (IntKind.i64.wrap (v.a + v.b))).fdiv (2 : Int))).toNat v.b.toNat j).fst
noncomputable def f44_68 (N : Nat) (v : V44) : Nat → (Int) := fun j => (So.srt (sp v.F v.G) (IntKind.i64.wrap ((IntKind.u64.wrap (IntKind.i64.wrap (v.a + v.b))).fdiv (2 : Int))).toNat v.b.toNat j).snd
theorem n_f44_0 (N : Nat) (v : V44) : f44_0 N v := by
  unfold f44_0
  first
    | (intros; rfl)
    | (intro i; rfl)
    | (intro i _; rfl)
    | (intro _ i; rfl)
    | (intro _ i _; rfl)
    | (refine ⟨?_, ?_⟩ <;> intro i <;> rfl)
    | (refine ⟨?_, ?_, ?_⟩ <;> intro i <;> rfl)
    | (refine ⟨?_, ?_⟩ <;> intro i _ <;> rfl)
    | (repeat' apply And.intro) <;> first | (intro i; rfl) | (intro i _; rfl) | (intro i h; exact absurd h (Nat.not_lt_zero i)) | (intro i; exact scpL_rowSet (by rfl) (by rfl)) | (intro i; exact scpL_rowEl (by kernel_rfl) _)
    | (intros; (repeat' apply And.intro) <;> intros <;> first | rfl | (exact absurd (by assumption) (Nat.not_lt_zero _)))
    | omega
    | decide
theorem n_f44_3 (N : Nat) (v : V44) : f44_3 N v := by
  unfold f44_3
  first
    | (intros; rfl)
    | (intro i; rfl)
    | (intro i _; rfl)
    | (intro _ i; rfl)
    | (intro _ i _; rfl)
    | (refine ⟨?_, ?_⟩ <;> intro i <;> rfl)
    | (refine ⟨?_, ?_, ?_⟩ <;> intro i <;> rfl)
    | (refine ⟨?_, ?_⟩ <;> intro i _ <;> rfl)
    | (repeat' apply And.intro) <;> first | (intro i; rfl) | (intro i _; rfl) | (intro i h; exact absurd h (Nat.not_lt_zero i)) | (intro i; exact scpL_rowSet (by rfl) (by rfl)) | (intro i; exact scpL_rowEl (by kernel_rfl) _)
    | (intros; (repeat' apply And.intro) <;> intros <;> first | rfl | (exact absurd (by assumption) (Nat.not_lt_zero _)))
    | omega
    | decide
theorem n_f44_6 (N : Nat) (v : V44) : f44_6 N v := by
  unfold f44_6
  first
    | (intros; rfl)
    | (intro i; rfl)
    | (intro i _; rfl)
    | (intro _ i; rfl)
    | (intro _ i _; rfl)
    | (refine ⟨?_, ?_⟩ <;> intro i <;> rfl)
    | (refine ⟨?_, ?_, ?_⟩ <;> intro i <;> rfl)
    | (refine ⟨?_, ?_⟩ <;> intro i _ <;> rfl)
    | (repeat' apply And.intro) <;> first | (intro i; rfl) | (intro i _; rfl) | (intro i h; exact absurd h (Nat.not_lt_zero i)) | (intro i; exact scpL_rowSet (by rfl) (by rfl)) | (intro i; exact scpL_rowEl (by kernel_rfl) _)
    | (intros; (repeat' apply And.intro) <;> intros <;> first | rfl | (exact absurd (by assumption) (Nat.not_lt_zero _)))
    | omega
    | decide
theorem n_f44_7 (N : Nat) (v : V44) : f44_7 N v := by
  unfold f44_7
  first
    | (intros; rfl)
    | (intro i; rfl)
    | (intro i _; rfl)
    | (intro _ i; rfl)
    | (intro _ i _; rfl)
    | (refine ⟨?_, ?_⟩ <;> intro i <;> rfl)
    | (refine ⟨?_, ?_, ?_⟩ <;> intro i <;> rfl)
    | (refine ⟨?_, ?_⟩ <;> intro i _ <;> rfl)
    | (repeat' apply And.intro) <;> first | (intro i; rfl) | (intro i _; rfl) | (intro i h; exact absurd h (Nat.not_lt_zero i)) | (intro i; exact scpL_rowSet (by rfl) (by rfl)) | (intro i; exact scpL_rowEl (by kernel_rfl) _)
    | (intros; (repeat' apply And.intro) <;> intros <;> first | rfl | (exact absurd (by assumption) (Nat.not_lt_zero _)))
    | omega
    | decide
theorem n_f44_9 (N : Nat) (v : V44) : f44_9 N v := by
  unfold f44_9
  first
    | (intros; rfl)
    | (intro i; rfl)
    | (intro i _; rfl)
    | (intro _ i; rfl)
    | (intro _ i _; rfl)
    | (refine ⟨?_, ?_⟩ <;> intro i <;> rfl)
    | (refine ⟨?_, ?_, ?_⟩ <;> intro i <;> rfl)
    | (refine ⟨?_, ?_⟩ <;> intro i _ <;> rfl)
    | (repeat' apply And.intro) <;> first | (intro i; rfl) | (intro i _; rfl) | (intro i h; exact absurd h (Nat.not_lt_zero i)) | (intro i; exact scpL_rowSet (by rfl) (by rfl)) | (intro i; exact scpL_rowEl (by kernel_rfl) _)
    | (intros; (repeat' apply And.intro) <;> intros <;> first | rfl | (exact absurd (by assumption) (Nat.not_lt_zero _)))
    | omega
    | decide
theorem n_f44_10 (N : Nat) (v : V44) : f44_10 N v := by
  unfold f44_10
  first
    | (intros; rfl)
    | (intro i; rfl)
    | (intro i _; rfl)
    | (intro _ i; rfl)
    | (intro _ i _; rfl)
    | (refine ⟨?_, ?_⟩ <;> intro i <;> rfl)
    | (refine ⟨?_, ?_, ?_⟩ <;> intro i <;> rfl)
    | (refine ⟨?_, ?_⟩ <;> intro i _ <;> rfl)
    | (repeat' apply And.intro) <;> first | (intro i; rfl) | (intro i _; rfl) | (intro i h; exact absurd h (Nat.not_lt_zero i)) | (intro i; exact scpL_rowSet (by rfl) (by rfl)) | (intro i; exact scpL_rowEl (by kernel_rfl) _)
    | (intros; (repeat' apply And.intro) <;> intros <;> first | rfl | (exact absurd (by assumption) (Nat.not_lt_zero _)))
    | omega
    | decide
theorem n_f44_12 (N : Nat) (v : V44) : f44_12 N v := by
  unfold f44_12
  first
    | (intros; rfl)
    | (intro i; rfl)
    | (intro i _; rfl)
    | (intro _ i; rfl)
    | (intro _ i _; rfl)
    | (refine ⟨?_, ?_⟩ <;> intro i <;> rfl)
    | (refine ⟨?_, ?_, ?_⟩ <;> intro i <;> rfl)
    | (refine ⟨?_, ?_⟩ <;> intro i _ <;> rfl)
    | (repeat' apply And.intro) <;> first | (intro i; rfl) | (intro i _; rfl) | (intro i h; exact absurd h (Nat.not_lt_zero i)) | (intro i; exact scpL_rowSet (by rfl) (by rfl)) | (intro i; exact scpL_rowEl (by kernel_rfl) _)
    | (intros; (repeat' apply And.intro) <;> intros <;> first | rfl | (exact absurd (by assumption) (Nat.not_lt_zero _)))
    | omega
    | decide
theorem n_f44_13 (N : Nat) (v : V44) : f44_13 N v := by
  unfold f44_13
  first
    | (intros; rfl)
    | (intro i; rfl)
    | (intro i _; rfl)
    | (intro _ i; rfl)
    | (intro _ i _; rfl)
    | (refine ⟨?_, ?_⟩ <;> intro i <;> rfl)
    | (refine ⟨?_, ?_, ?_⟩ <;> intro i <;> rfl)
    | (refine ⟨?_, ?_⟩ <;> intro i _ <;> rfl)
    | (repeat' apply And.intro) <;> first | (intro i; rfl) | (intro i _; rfl) | (intro i h; exact absurd h (Nat.not_lt_zero i)) | (intro i; exact scpL_rowSet (by rfl) (by rfl)) | (intro i; exact scpL_rowEl (by kernel_rfl) _)
    | (intros; (repeat' apply And.intro) <;> intros <;> first | rfl | (exact absurd (by assumption) (Nat.not_lt_zero _)))
    | omega
    | decide
theorem n_f44_14 (N : Nat) (v : V44) : f44_14 N v := by
  unfold f44_14
  first
    | (intros; rfl)
    | (intro i; rfl)
    | (intro i _; rfl)
    | (intro _ i; rfl)
    | (intro _ i _; rfl)
    | (refine ⟨?_, ?_⟩ <;> intro i <;> rfl)
    | (refine ⟨?_, ?_, ?_⟩ <;> intro i <;> rfl)
    | (refine ⟨?_, ?_⟩ <;> intro i _ <;> rfl)
    | (repeat' apply And.intro) <;> first | (intro i; rfl) | (intro i _; rfl) | (intro i h; exact absurd h (Nat.not_lt_zero i)) | (intro i; exact scpL_rowSet (by rfl) (by rfl)) | (intro i; exact scpL_rowEl (by kernel_rfl) _)
    | (intros; (repeat' apply And.intro) <;> intros <;> first | rfl | (exact absurd (by assumption) (Nat.not_lt_zero _)))
    | omega
    | decide
theorem n_f44_16 (N : Nat) (v : V44) : f44_16 N v := by
  unfold f44_16
  first
    | (intros; rfl)
    | (intro i; rfl)
    | (intro i _; rfl)
    | (intro _ i; rfl)
    | (intro _ i _; rfl)
    | (refine ⟨?_, ?_⟩ <;> intro i <;> rfl)
    | (refine ⟨?_, ?_, ?_⟩ <;> intro i <;> rfl)
    | (refine ⟨?_, ?_⟩ <;> intro i _ <;> rfl)
    | (repeat' apply And.intro) <;> first | (intro i; rfl) | (intro i _; rfl) | (intro i h; exact absurd h (Nat.not_lt_zero i)) | (intro i; exact scpL_rowSet (by rfl) (by rfl)) | (intro i; exact scpL_rowEl (by kernel_rfl) _)
    | (intros; (repeat' apply And.intro) <;> intros <;> first | rfl | (exact absurd (by assumption) (Nat.not_lt_zero _)))
    | omega
    | decide
theorem n_f44_17 (N : Nat) (v : V44) : f44_17 N v := by
  unfold f44_17
  first
    | (intros; rfl)
    | (intro i; rfl)
    | (intro i _; rfl)
    | (intro _ i; rfl)
    | (intro _ i _; rfl)
    | (refine ⟨?_, ?_⟩ <;> intro i <;> rfl)
    | (refine ⟨?_, ?_, ?_⟩ <;> intro i <;> rfl)
    | (refine ⟨?_, ?_⟩ <;> intro i _ <;> rfl)
    | (repeat' apply And.intro) <;> first | (intro i; rfl) | (intro i _; rfl) | (intro i h; exact absurd h (Nat.not_lt_zero i)) | (intro i; exact scpL_rowSet (by rfl) (by rfl)) | (intro i; exact scpL_rowEl (by kernel_rfl) _)
    | (intros; (repeat' apply And.intro) <;> intros <;> first | rfl | (exact absurd (by assumption) (Nat.not_lt_zero _)))
    | omega
    | decide
theorem n_f44_18 (N : Nat) (v : V44) : f44_18 N v := by
  unfold f44_18
  first
    | (intros; rfl)
    | (intro i; rfl)
    | (intro i _; rfl)
    | (intro _ i; rfl)
    | (intro _ i _; rfl)
    | (refine ⟨?_, ?_⟩ <;> intro i <;> rfl)
    | (refine ⟨?_, ?_, ?_⟩ <;> intro i <;> rfl)
    | (refine ⟨?_, ?_⟩ <;> intro i _ <;> rfl)
    | (repeat' apply And.intro) <;> first | (intro i; rfl) | (intro i _; rfl) | (intro i h; exact absurd h (Nat.not_lt_zero i)) | (intro i; exact scpL_rowSet (by rfl) (by rfl)) | (intro i; exact scpL_rowEl (by kernel_rfl) _)
    | (intros; (repeat' apply And.intro) <;> intros <;> first | rfl | (exact absurd (by assumption) (Nat.not_lt_zero _)))
    | omega
    | decide
theorem n_f44_20 (N : Nat) (v : V44) : f44_20 N v := by
  unfold f44_20
  first
    | (intros; rfl)
    | (intro i; rfl)
    | (intro i _; rfl)
    | (intro _ i; rfl)
    | (intro _ i _; rfl)
    | (refine ⟨?_, ?_⟩ <;> intro i <;> rfl)
    | (refine ⟨?_, ?_, ?_⟩ <;> intro i <;> rfl)
    | (refine ⟨?_, ?_⟩ <;> intro i _ <;> rfl)
    | (repeat' apply And.intro) <;> first | (intro i; rfl) | (intro i _; rfl) | (intro i h; exact absurd h (Nat.not_lt_zero i)) | (intro i; exact scpL_rowSet (by rfl) (by rfl)) | (intro i; exact scpL_rowEl (by kernel_rfl) _)
    | (intros; (repeat' apply And.intro) <;> intros <;> first | rfl | (exact absurd (by assumption) (Nat.not_lt_zero _)))
    | omega
    | decide
theorem n_f44_21 (N : Nat) (v : V44) : f44_21 N v := by
  unfold f44_21
  first
    | (intros; rfl)
    | (intro i; rfl)
    | (intro i _; rfl)
    | (intro _ i; rfl)
    | (intro _ i _; rfl)
    | (refine ⟨?_, ?_⟩ <;> intro i <;> rfl)
    | (refine ⟨?_, ?_, ?_⟩ <;> intro i <;> rfl)
    | (refine ⟨?_, ?_⟩ <;> intro i _ <;> rfl)
    | (repeat' apply And.intro) <;> first | (intro i; rfl) | (intro i _; rfl) | (intro i h; exact absurd h (Nat.not_lt_zero i)) | (intro i; exact scpL_rowSet (by rfl) (by rfl)) | (intro i; exact scpL_rowEl (by kernel_rfl) _)
    | (intros; (repeat' apply And.intro) <;> intros <;> first | rfl | (exact absurd (by assumption) (Nat.not_lt_zero _)))
    | omega
    | decide
theorem n_f44_22 (N : Nat) (v : V44) : f44_22 N v := by
  unfold f44_22
  first
    | (intros; rfl)
    | (intro i; rfl)
    | (intro i _; rfl)
    | (intro _ i; rfl)
    | (intro _ i _; rfl)
    | (refine ⟨?_, ?_⟩ <;> intro i <;> rfl)
    | (refine ⟨?_, ?_, ?_⟩ <;> intro i <;> rfl)
    | (refine ⟨?_, ?_⟩ <;> intro i _ <;> rfl)
    | (repeat' apply And.intro) <;> first | (intro i; rfl) | (intro i _; rfl) | (intro i h; exact absurd h (Nat.not_lt_zero i)) | (intro i; exact scpL_rowSet (by rfl) (by rfl)) | (intro i; exact scpL_rowEl (by kernel_rfl) _)
    | (intros; (repeat' apply And.intro) <;> intros <;> first | rfl | (exact absurd (by assumption) (Nat.not_lt_zero _)))
    | omega
    | decide
theorem n_f44_24 (N : Nat) (v : V44) : f44_24 N v := by
  unfold f44_24
  first
    | (intros; rfl)
    | (intro i; rfl)
    | (intro i _; rfl)
    | (intro _ i; rfl)
    | (intro _ i _; rfl)
    | (refine ⟨?_, ?_⟩ <;> intro i <;> rfl)
    | (refine ⟨?_, ?_, ?_⟩ <;> intro i <;> rfl)
    | (refine ⟨?_, ?_⟩ <;> intro i _ <;> rfl)
    | (repeat' apply And.intro) <;> first | (intro i; rfl) | (intro i _; rfl) | (intro i h; exact absurd h (Nat.not_lt_zero i)) | (intro i; exact scpL_rowSet (by rfl) (by rfl)) | (intro i; exact scpL_rowEl (by kernel_rfl) _)
    | (intros; (repeat' apply And.intro) <;> intros <;> first | rfl | (exact absurd (by assumption) (Nat.not_lt_zero _)))
    | omega
    | decide
theorem n_f44_25 (N : Nat) (v : V44) : f44_25 N v := by
  unfold f44_25
  first
    | (intros; rfl)
    | (intro i; rfl)
    | (intro i _; rfl)
    | (intro _ i; rfl)
    | (intro _ i _; rfl)
    | (refine ⟨?_, ?_⟩ <;> intro i <;> rfl)
    | (refine ⟨?_, ?_, ?_⟩ <;> intro i <;> rfl)
    | (refine ⟨?_, ?_⟩ <;> intro i _ <;> rfl)
    | (repeat' apply And.intro) <;> first | (intro i; rfl) | (intro i _; rfl) | (intro i h; exact absurd h (Nat.not_lt_zero i)) | (intro i; exact scpL_rowSet (by rfl) (by rfl)) | (intro i; exact scpL_rowEl (by kernel_rfl) _)
    | (intros; (repeat' apply And.intro) <;> intros <;> first | rfl | (exact absurd (by assumption) (Nat.not_lt_zero _)))
    | omega
    | decide
theorem n_f44_26 (N : Nat) (v : V44) : f44_26 N v := by
  unfold f44_26
  first
    | (intros; rfl)
    | (intro i; rfl)
    | (intro i _; rfl)
    | (intro _ i; rfl)
    | (intro _ i _; rfl)
    | (refine ⟨?_, ?_⟩ <;> intro i <;> rfl)
    | (refine ⟨?_, ?_, ?_⟩ <;> intro i <;> rfl)
    | (refine ⟨?_, ?_⟩ <;> intro i _ <;> rfl)
    | (repeat' apply And.intro) <;> first | (intro i; rfl) | (intro i _; rfl) | (intro i h; exact absurd h (Nat.not_lt_zero i)) | (intro i; exact scpL_rowSet (by rfl) (by rfl)) | (intro i; exact scpL_rowEl (by kernel_rfl) _)
    | (intros; (repeat' apply And.intro) <;> intros <;> first | rfl | (exact absurd (by assumption) (Nat.not_lt_zero _)))
    | omega
    | decide
theorem n_f44_28 (N : Nat) (v : V44) : f44_28 N v := by
  unfold f44_28
  first
    | (intros; rfl)
    | (intro i; rfl)
    | (intro i _; rfl)
    | (intro _ i; rfl)
    | (intro _ i _; rfl)
    | (refine ⟨?_, ?_⟩ <;> intro i <;> rfl)
    | (refine ⟨?_, ?_, ?_⟩ <;> intro i <;> rfl)
    | (refine ⟨?_, ?_⟩ <;> intro i _ <;> rfl)
    | (repeat' apply And.intro) <;> first | (intro i; rfl) | (intro i _; rfl) | (intro i h; exact absurd h (Nat.not_lt_zero i)) | (intro i; exact scpL_rowSet (by rfl) (by rfl)) | (intro i; exact scpL_rowEl (by kernel_rfl) _)
    | (intros; (repeat' apply And.intro) <;> intros <;> first | rfl | (exact absurd (by assumption) (Nat.not_lt_zero _)))
    | omega
    | decide
theorem n_f44_29 (N : Nat) (v : V44) : f44_29 N v := by
  unfold f44_29
  first
    | (intros; rfl)
    | (intro i; rfl)
    | (intro i _; rfl)
    | (intro _ i; rfl)
    | (intro _ i _; rfl)
    | (refine ⟨?_, ?_⟩ <;> intro i <;> rfl)
    | (refine ⟨?_, ?_, ?_⟩ <;> intro i <;> rfl)
    | (refine ⟨?_, ?_⟩ <;> intro i _ <;> rfl)
    | (repeat' apply And.intro) <;> first | (intro i; rfl) | (intro i _; rfl) | (intro i h; exact absurd h (Nat.not_lt_zero i)) | (intro i; exact scpL_rowSet (by rfl) (by rfl)) | (intro i; exact scpL_rowEl (by kernel_rfl) _)
    | (intros; (repeat' apply And.intro) <;> intros <;> first | rfl | (exact absurd (by assumption) (Nat.not_lt_zero _)))
    | omega
    | decide
theorem n_f44_30 (N : Nat) (v : V44) : f44_30 N v := by
  unfold f44_30
  first
    | (intros; rfl)
    | (intro i; rfl)
    | (intro i _; rfl)
    | (intro _ i; rfl)
    | (intro _ i _; rfl)
    | (refine ⟨?_, ?_⟩ <;> intro i <;> rfl)
    | (refine ⟨?_, ?_, ?_⟩ <;> intro i <;> rfl)
    | (refine ⟨?_, ?_⟩ <;> intro i _ <;> rfl)
    | (repeat' apply And.intro) <;> first | (intro i; rfl) | (intro i _; rfl) | (intro i h; exact absurd h (Nat.not_lt_zero i)) | (intro i; exact scpL_rowSet (by rfl) (by rfl)) | (intro i; exact scpL_rowEl (by kernel_rfl) _)
    | (intros; (repeat' apply And.intro) <;> intros <;> first | rfl | (exact absurd (by assumption) (Nat.not_lt_zero _)))
    | omega
    | decide
theorem n_f44_32 (N : Nat) (v : V44) : f44_32 N v := by
  unfold f44_32
  first
    | (intros; rfl)
    | (intro i; rfl)
    | (intro i _; rfl)
    | (intro _ i; rfl)
    | (intro _ i _; rfl)
    | (refine ⟨?_, ?_⟩ <;> intro i <;> rfl)
    | (refine ⟨?_, ?_, ?_⟩ <;> intro i <;> rfl)
    | (refine ⟨?_, ?_⟩ <;> intro i _ <;> rfl)
    | (repeat' apply And.intro) <;> first | (intro i; rfl) | (intro i _; rfl) | (intro i h; exact absurd h (Nat.not_lt_zero i)) | (intro i; exact scpL_rowSet (by rfl) (by rfl)) | (intro i; exact scpL_rowEl (by kernel_rfl) _)
    | (intros; (repeat' apply And.intro) <;> intros <;> first | rfl | (exact absurd (by assumption) (Nat.not_lt_zero _)))
    | omega
    | decide
theorem n_f44_33 (N : Nat) (v : V44) : f44_33 N v := by
  unfold f44_33
  first
    | (intros; rfl)
    | (intro i; rfl)
    | (intro i _; rfl)
    | (intro _ i; rfl)
    | (intro _ i _; rfl)
    | (refine ⟨?_, ?_⟩ <;> intro i <;> rfl)
    | (refine ⟨?_, ?_, ?_⟩ <;> intro i <;> rfl)
    | (refine ⟨?_, ?_⟩ <;> intro i _ <;> rfl)
    | (repeat' apply And.intro) <;> first | (intro i; rfl) | (intro i _; rfl) | (intro i h; exact absurd h (Nat.not_lt_zero i)) | (intro i; exact scpL_rowSet (by rfl) (by rfl)) | (intro i; exact scpL_rowEl (by kernel_rfl) _)
    | (intros; (repeat' apply And.intro) <;> intros <;> first | rfl | (exact absurd (by assumption) (Nat.not_lt_zero _)))
    | omega
    | decide
theorem n_f44_34 (N : Nat) (v : V44) : f44_34 N v := by
  unfold f44_34
  first
    | (intros; rfl)
    | (intro i; rfl)
    | (intro i _; rfl)
    | (intro _ i; rfl)
    | (intro _ i _; rfl)
    | (refine ⟨?_, ?_⟩ <;> intro i <;> rfl)
    | (refine ⟨?_, ?_, ?_⟩ <;> intro i <;> rfl)
    | (refine ⟨?_, ?_⟩ <;> intro i _ <;> rfl)
    | (repeat' apply And.intro) <;> first | (intro i; rfl) | (intro i _; rfl) | (intro i h; exact absurd h (Nat.not_lt_zero i)) | (intro i; exact scpL_rowSet (by rfl) (by rfl)) | (intro i; exact scpL_rowEl (by kernel_rfl) _)
    | (intros; (repeat' apply And.intro) <;> intros <;> first | rfl | (exact absurd (by assumption) (Nat.not_lt_zero _)))
    | omega
    | decide
theorem n_f44_36 (N : Nat) (v : V44) : f44_36 N v := by
  unfold f44_36
  first
    | (intros; rfl)
    | (intro i; rfl)
    | (intro i _; rfl)
    | (intro _ i; rfl)
    | (intro _ i _; rfl)
    | (refine ⟨?_, ?_⟩ <;> intro i <;> rfl)
    | (refine ⟨?_, ?_, ?_⟩ <;> intro i <;> rfl)
    | (refine ⟨?_, ?_⟩ <;> intro i _ <;> rfl)
    | (repeat' apply And.intro) <;> first | (intro i; rfl) | (intro i _; rfl) | (intro i h; exact absurd h (Nat.not_lt_zero i)) | (intro i; exact scpL_rowSet (by rfl) (by rfl)) | (intro i; exact scpL_rowEl (by kernel_rfl) _)
    | (intros; (repeat' apply And.intro) <;> intros <;> first | rfl | (exact absurd (by assumption) (Nat.not_lt_zero _)))
    | omega
    | decide
theorem n_f44_38 (N : Nat) (v : V44) : f44_38 N v := by
  unfold f44_38
  first
    | (intros; rfl)
    | (intro i; rfl)
    | (intro i _; rfl)
    | (intro _ i; rfl)
    | (intro _ i _; rfl)
    | (refine ⟨?_, ?_⟩ <;> intro i <;> rfl)
    | (refine ⟨?_, ?_, ?_⟩ <;> intro i <;> rfl)
    | (refine ⟨?_, ?_⟩ <;> intro i _ <;> rfl)
    | (repeat' apply And.intro) <;> first | (intro i; rfl) | (intro i _; rfl) | (intro i h; exact absurd h (Nat.not_lt_zero i)) | (intro i; exact scpL_rowSet (by rfl) (by rfl)) | (intro i; exact scpL_rowEl (by kernel_rfl) _)
    | (intros; (repeat' apply And.intro) <;> intros <;> first | rfl | (exact absurd (by assumption) (Nat.not_lt_zero _)))
    | omega
    | decide
theorem n_f44_42 (N : Nat) (v : V44) : f44_42 N v := by
  unfold f44_42
  first
    | (intros; rfl)
    | (intro i; rfl)
    | (intro i _; rfl)
    | (intro _ i; rfl)
    | (intro _ i _; rfl)
    | (refine ⟨?_, ?_⟩ <;> intro i <;> rfl)
    | (refine ⟨?_, ?_, ?_⟩ <;> intro i <;> rfl)
    | (refine ⟨?_, ?_⟩ <;> intro i _ <;> rfl)
    | (repeat' apply And.intro) <;> first | (intro i; rfl) | (intro i _; rfl) | (intro i h; exact absurd h (Nat.not_lt_zero i)) | (intro i; exact scpL_rowSet (by rfl) (by rfl)) | (intro i; exact scpL_rowEl (by kernel_rfl) _)
    | (intros; (repeat' apply And.intro) <;> intros <;> first | rfl | (exact absurd (by assumption) (Nat.not_lt_zero _)))
    | omega
    | decide
theorem n_f44_48 (N : Nat) (v : V44) : f44_48 N v := by
  unfold f44_48
  first
    | (intros; rfl)
    | (intro i; rfl)
    | (intro i _; rfl)
    | (intro _ i; rfl)
    | (intro _ i _; rfl)
    | (refine ⟨?_, ?_⟩ <;> intro i <;> rfl)
    | (refine ⟨?_, ?_, ?_⟩ <;> intro i <;> rfl)
    | (refine ⟨?_, ?_⟩ <;> intro i _ <;> rfl)
    | (repeat' apply And.intro) <;> first | (intro i; rfl) | (intro i _; rfl) | (intro i h; exact absurd h (Nat.not_lt_zero i)) | (intro i; exact scpL_rowSet (by rfl) (by rfl)) | (intro i; exact scpL_rowEl (by kernel_rfl) _)
    | (intros; (repeat' apply And.intro) <;> intros <;> first | rfl | (exact absurd (by assumption) (Nat.not_lt_zero _)))
    | omega
    | decide
theorem n_f44_51 (N : Nat) (v : V44) : f44_51 N v := by
  unfold f44_51
  first
    | (intros; rfl)
    | (intro i; rfl)
    | (intro i _; rfl)
    | (intro _ i; rfl)
    | (intro _ i _; rfl)
    | (refine ⟨?_, ?_⟩ <;> intro i <;> rfl)
    | (refine ⟨?_, ?_, ?_⟩ <;> intro i <;> rfl)
    | (refine ⟨?_, ?_⟩ <;> intro i _ <;> rfl)
    | (repeat' apply And.intro) <;> first | (intro i; rfl) | (intro i _; rfl) | (intro i h; exact absurd h (Nat.not_lt_zero i)) | (intro i; exact scpL_rowSet (by rfl) (by rfl)) | (intro i; exact scpL_rowEl (by kernel_rfl) _)
    | (intros; (repeat' apply And.intro) <;> intros <;> first | rfl | (exact absurd (by assumption) (Nat.not_lt_zero _)))
    | omega
    | decide
theorem n_f44_54 (N : Nat) (v : V44) : f44_54 N v := by
  unfold f44_54
  first
    | (intros; rfl)
    | (intro i; rfl)
    | (intro i _; rfl)
    | (intro _ i; rfl)
    | (intro _ i _; rfl)
    | (refine ⟨?_, ?_⟩ <;> intro i <;> rfl)
    | (refine ⟨?_, ?_, ?_⟩ <;> intro i <;> rfl)
    | (refine ⟨?_, ?_⟩ <;> intro i _ <;> rfl)
    | (repeat' apply And.intro) <;> first | (intro i; rfl) | (intro i _; rfl) | (intro i h; exact absurd h (Nat.not_lt_zero i)) | (intro i; exact scpL_rowSet (by rfl) (by rfl)) | (intro i; exact scpL_rowEl (by kernel_rfl) _)
    | (intros; (repeat' apply And.intro) <;> intros <;> first | rfl | (exact absurd (by assumption) (Nat.not_lt_zero _)))
    | omega
    | decide
theorem n_f44_57 (N : Nat) (v : V44) : f44_57 N v := by
  unfold f44_57
  first
    | (intros; rfl)
    | (intro i; rfl)
    | (intro i _; rfl)
    | (intro _ i; rfl)
    | (intro _ i _; rfl)
    | (refine ⟨?_, ?_⟩ <;> intro i <;> rfl)
    | (refine ⟨?_, ?_, ?_⟩ <;> intro i <;> rfl)
    | (refine ⟨?_, ?_⟩ <;> intro i _ <;> rfl)
    | (repeat' apply And.intro) <;> first | (intro i; rfl) | (intro i _; rfl) | (intro i h; exact absurd h (Nat.not_lt_zero i)) | (intro i; exact scpL_rowSet (by rfl) (by rfl)) | (intro i; exact scpL_rowEl (by kernel_rfl) _)
    | (intros; (repeat' apply And.intro) <;> intros <;> first | rfl | (exact absurd (by assumption) (Nat.not_lt_zero _)))
    | omega
    | decide
theorem n_f44_60 (N : Nat) (v : V44) : f44_60 N v := by
  unfold f44_60
  first
    | (intros; rfl)
    | (intro i; rfl)
    | (intro i _; rfl)
    | (intro _ i; rfl)
    | (intro _ i _; rfl)
    | (refine ⟨?_, ?_⟩ <;> intro i <;> rfl)
    | (refine ⟨?_, ?_, ?_⟩ <;> intro i <;> rfl)
    | (refine ⟨?_, ?_⟩ <;> intro i _ <;> rfl)
    | (repeat' apply And.intro) <;> first | (intro i; rfl) | (intro i _; rfl) | (intro i h; exact absurd h (Nat.not_lt_zero i)) | (intro i; exact scpL_rowSet (by rfl) (by rfl)) | (intro i; exact scpL_rowEl (by kernel_rfl) _)
    | (intros; (repeat' apply And.intro) <;> intros <;> first | rfl | (exact absurd (by assumption) (Nat.not_lt_zero _)))
    | omega
    | decide
theorem n_f44_63 (N : Nat) (v : V44) : f44_63 N v := by
  unfold f44_63
  first
    | (intros; rfl)
    | (intro i; rfl)
    | (intro i _; rfl)
    | (intro _ i; rfl)
    | (intro _ i _; rfl)
    | (refine ⟨?_, ?_⟩ <;> intro i <;> rfl)
    | (refine ⟨?_, ?_, ?_⟩ <;> intro i <;> rfl)
    | (refine ⟨?_, ?_⟩ <;> intro i _ <;> rfl)
    | (repeat' apply And.intro) <;> first | (intro i; rfl) | (intro i _; rfl) | (intro i h; exact absurd h (Nat.not_lt_zero i)) | (intro i; exact scpL_rowSet (by rfl) (by rfl)) | (intro i; exact scpL_rowEl (by kernel_rfl) _)
    | (intros; (repeat' apply And.intro) <;> intros <;> first | rfl | (exact absurd (by assumption) (Nat.not_lt_zero _)))
    | omega
    | decide
theorem n_f44_66 (N : Nat) (v : V44) : f44_66 N v := by
  unfold f44_66
  first
    | (intros; rfl)
    | (intro i; rfl)
    | (intro i _; rfl)
    | (intro _ i; rfl)
    | (intro _ i _; rfl)
    | (refine ⟨?_, ?_⟩ <;> intro i <;> rfl)
    | (refine ⟨?_, ?_, ?_⟩ <;> intro i <;> rfl)
    | (refine ⟨?_, ?_⟩ <;> intro i _ <;> rfl)
    | (repeat' apply And.intro) <;> first | (intro i; rfl) | (intro i _; rfl) | (intro i h; exact absurd h (Nat.not_lt_zero i)) | (intro i; exact scpL_rowSet (by rfl) (by rfl)) | (intro i; exact scpL_rowEl (by kernel_rfl) _)
    | (intros; (repeat' apply And.intro) <;> intros <;> first | rfl | (exact absurd (by assumption) (Nat.not_lt_zero _)))
    | omega
    | decide
noncomputable def ff44 (N : Nat) (v : V44) : Tr (Fin th.R) := (Tr.need (f44_0 N v) (Tr.need (f44_1 N v) (Tr.need (f44_0 N v) (Tr.need (f44_2 N v) (Tr.need (f44_3 N v) (Tr.need (f44_4 N v) (Tr.need (f44_3 N v) (Tr.need (f44_5 N v) (Tr.need (f44_6 N v) (Tr.need (f44_7 N v) (Tr.need (f44_8 N v) (Tr.need (f44_9 N v) (Tr.need (f44_10 N v) (Tr.need (f44_11 N v) (Tr.need (f44_12 N v) (Tr.need (f44_13 N v) (Tr.need (f44_14 N v) (Tr.need (f44_15 N v) (Tr.need (f44_16 N v) (Tr.need (f44_17 N v) (Tr.need (f44_18 N v) (Tr.need (f44_19 N v) (Tr.need (f44_20 N v) (Tr.need (f44_21 N v) (Tr.need (f44_22 N v) (Tr.need (f44_23 N v) (Tr.need (f44_24 N v) (Tr.need (f44_25 N v) (Tr.need (f44_26 N v) (Tr.need (f44_27 N v) (Tr.need (f44_28 N v) (Tr.need (f44_29 N v) (Tr.need (f44_30 N v) (Tr.need (f44_31 N v) (Tr.need (f44_32 N v) (Tr.need (f44_33 N v) (Tr.need (f44_34 N v) (Tr.need (f44_35 N v) (Tr.need (f44_36 N v) (Tr.ite (f44_37 N v) (Tr.need (f44_38 N v) (Tr.leaf (Prod.mk (SV.tup []) (Prod.mk (List.cons (HO.row ((27 : Nat)) ((2 : Nat)) (v.M) (fun j => (List.cons (SV.int (IntKind.u64) (f44_39 N v j)) (List.cons (SV.int (IntKind.u64) (f44_40 N v j)) [])))) []) (List.cons ((0:Nat)) []))))) (Tr.ite (f44_41 N v) (Tr.need (f44_42 N v) (Tr.leaf (Prod.mk (SV.tup []) (Prod.mk (List.cons (HO.row ((27 : Nat)) ((2 : Nat)) (v.M) (fun j => (List.cons (SV.int (IntKind.u64) (f44_43 N v j)) (List.cons (SV.int (IntKind.u64) (f44_44 N v j)) [])))) []) (List.cons ((0:Nat)) []))))) (Tr.ite (f44_45 N v) (Tr.ite (f44_46 N v) (Tr.ite (f44_47 N v) (Tr.need (f44_48 N v) (Tr.leaf (Prod.mk (SV.tup []) (Prod.mk (List.cons (HO.row ((27 : Nat)) ((2 : Nat)) (v.M) (fun j => (List.cons (SV.int (IntKind.u64) (f44_49 N v j)) (List.cons (SV.int (IntKind.u64) (f44_50 N v j)) [])))) []) (List.cons ((0:Nat)) (List.cons ((0:Nat)) (List.cons ((0:Nat)) []))))))) (Tr.need (f44_51 N v) (Tr.leaf (Prod.mk (SV.tup []) (Prod.mk (List.cons (HO.row ((27 : Nat)) ((2 : Nat)) (v.M) (fun j => (List.cons (SV.int (IntKind.u64) (f44_52 N v j)) (List.cons (SV.int (IntKind.u64) (f44_53 N v j)) [])))) []) (List.cons ((0:Nat)) (List.cons ((0:Nat)) []))))))) (Tr.ite (f44_47 N v) (Tr.need (f44_54 N v) (Tr.leaf (Prod.mk (SV.tup []) (Prod.mk (List.cons (HO.row ((27 : Nat)) ((2 : Nat)) (v.M) (fun j => (List.cons (SV.int (IntKind.u64) (f44_55 N v j)) (List.cons (SV.int (IntKind.u64) (f44_56 N v j)) [])))) []) (List.cons ((0:Nat)) (List.cons ((0:Nat)) [])))))) (Tr.need (f44_57 N v) (Tr.leaf (Prod.mk (SV.tup []) (Prod.mk (List.cons (HO.row ((27 : Nat)) ((2 : Nat)) (v.M) (fun j => (List.cons (SV.int (IntKind.u64) (f44_58 N v j)) (List.cons (SV.int (IntKind.u64) (f44_59 N v j)) [])))) []) (List.cons ((0:Nat)) []))))))) (Tr.ite (f44_46 N v) (Tr.ite (f44_47 N v) (Tr.need (f44_60 N v) (Tr.leaf (Prod.mk (SV.tup []) (Prod.mk (List.cons (HO.row ((27 : Nat)) ((2 : Nat)) (v.M) (fun j => (List.cons (SV.int (IntKind.u64) (f44_61 N v j)) (List.cons (SV.int (IntKind.u64) (f44_62 N v j)) [])))) []) (List.cons ((0:Nat)) (List.cons ((0:Nat)) [])))))) (Tr.need (f44_63 N v) (Tr.leaf (Prod.mk (SV.tup []) (Prod.mk (List.cons (HO.row ((27 : Nat)) ((2 : Nat)) (v.M) (fun j => (List.cons (SV.int (IntKind.u64) (f44_64 N v j)) (List.cons (SV.int (IntKind.u64) (f44_65 N v j)) [])))) []) (List.cons ((0:Nat)) [])))))) (Tr.ite (f44_47 N v) (Tr.need (f44_66 N v) (Tr.leaf (Prod.mk (SV.tup []) (Prod.mk (List.cons (HO.row ((27 : Nat)) ((2 : Nat)) (v.M) (fun j => (List.cons (SV.int (IntKind.u64) (f44_67 N v j)) (List.cons (SV.int (IntKind.u64) (f44_68 N v j)) [])))) []) (List.cons ((0:Nat)) []))))) (Tr.leaf (Prod.mk (SV.tup []) (Prod.mk (List.cons (HO.row ((27 : Nat)) ((2 : Nat)) (v.M) (fun j => (List.cons (SV.int (IntKind.u64) (v.F j)) (List.cons (SV.int (IntKind.u64) (v.G j)) [])))) []) [])))))))))))))))))))))))))))))))))))))))))))))))
noncomputable def f44 (N : Nat) (v : V44) : Tr (Fin th.R) := (Tr.need (f44_1 N v) (Tr.need (f44_2 N v) (Tr.need (f44_4 N v) (Tr.need (f44_5 N v) (Tr.need (f44_8 N v) (Tr.need (f44_11 N v) (Tr.need (f44_15 N v) (Tr.need (f44_19 N v) (Tr.need (f44_23 N v) (Tr.need (f44_27 N v) (Tr.need (f44_31 N v) (Tr.need (f44_35 N v) (Tr.ite (f44_37 N v) (Tr.leaf (Prod.mk (SV.tup []) (Prod.mk (List.cons (HO.row ((27 : Nat)) ((2 : Nat)) (v.M) (fun j => (List.cons (SV.int (IntKind.u64) (f44_39 N v j)) (List.cons (SV.int (IntKind.u64) (f44_40 N v j)) [])))) []) ([0])))) (Tr.ite (f44_41 N v) (Tr.leaf (Prod.mk (SV.tup []) (Prod.mk (List.cons (HO.row ((27 : Nat)) ((2 : Nat)) (v.M) (fun j => (List.cons (SV.int (IntKind.u64) (f44_43 N v j)) (List.cons (SV.int (IntKind.u64) (f44_44 N v j)) [])))) []) ([0])))) (Tr.ite (f44_45 N v) (Tr.ite (f44_46 N v) (Tr.ite (f44_47 N v) (Tr.leaf (Prod.mk (SV.tup []) (Prod.mk (List.cons (HO.row ((27 : Nat)) ((2 : Nat)) (v.M) (fun j => (List.cons (SV.int (IntKind.u64) (f44_49 N v j)) (List.cons (SV.int (IntKind.u64) (f44_50 N v j)) [])))) []) ([0])))) (Tr.leaf (Prod.mk (SV.tup []) (Prod.mk (List.cons (HO.row ((27 : Nat)) ((2 : Nat)) (v.M) (fun j => (List.cons (SV.int (IntKind.u64) (f44_52 N v j)) (List.cons (SV.int (IntKind.u64) (f44_53 N v j)) [])))) []) ([0]))))) (Tr.ite (f44_47 N v) (Tr.leaf (Prod.mk (SV.tup []) (Prod.mk (List.cons (HO.row ((27 : Nat)) ((2 : Nat)) (v.M) (fun j => (List.cons (SV.int (IntKind.u64) (f44_55 N v j)) (List.cons (SV.int (IntKind.u64) (f44_56 N v j)) [])))) []) ([0])))) (Tr.leaf (Prod.mk (SV.tup []) (Prod.mk (List.cons (HO.row ((27 : Nat)) ((2 : Nat)) (v.M) (fun j => (List.cons (SV.int (IntKind.u64) (f44_58 N v j)) (List.cons (SV.int (IntKind.u64) (f44_59 N v j)) [])))) []) ([0])))))) (Tr.ite (f44_46 N v) (Tr.ite (f44_47 N v) (Tr.leaf (Prod.mk (SV.tup []) (Prod.mk (List.cons (HO.row ((27 : Nat)) ((2 : Nat)) (v.M) (fun j => (List.cons (SV.int (IntKind.u64) (f44_61 N v j)) (List.cons (SV.int (IntKind.u64) (f44_62 N v j)) [])))) []) ([0])))) (Tr.leaf (Prod.mk (SV.tup []) (Prod.mk (List.cons (HO.row ((27 : Nat)) ((2 : Nat)) (v.M) (fun j => (List.cons (SV.int (IntKind.u64) (f44_64 N v j)) (List.cons (SV.int (IntKind.u64) (f44_65 N v j)) [])))) []) ([0]))))) (Tr.ite (f44_47 N v) (Tr.leaf (Prod.mk (SV.tup []) (Prod.mk (List.cons (HO.row ((27 : Nat)) ((2 : Nat)) (v.M) (fun j => (List.cons (SV.int (IntKind.u64) (f44_67 N v j)) (List.cons (SV.int (IntKind.u64) (f44_68 N v j)) [])))) []) ([0])))) (Tr.leaf (Prod.mk (SV.tup []) (Prod.mk (List.cons (HO.row ((27 : Nat)) ((2 : Nat)) (v.M) (fun j => (List.cons (SV.int (IntKind.u64) (v.F j)) (List.cons (SV.int (IntKind.u64) (v.G j)) [])))) []) ([0])))))))))))))))))))))
noncomputable def C44 (N : Nat) : CF th.R := fnC d44 ofV44 (f44 N )
theorem q44 (N : Nat) (v : V44) : (evFn th Try.prog (auto th Try.prog (nice44r N) [] 20) (autoH [(3, L44_0), (9, L44_1), (15, L44_2), (21, L44_3), (33, L44_4)] [] [] [999998] : Hints th) 44) (A44 v) (H44 v) = some (ff44 N v) := by kernel_rfl
theorem qg44 (N : Nat) (v : V44) : ((ff44 N v).map (setD [0])).get = (f44 N v).get := by kernel_rfl
theorem qd44 (N : Nat) (v : V44) : allD 1 [0] (ff44 N v) = true := by kernel_rfl
theorem s44 (N : Nat) (hN : Sound Try.prog th 44 (C44r N)) : Sound Try.prog th 44 (C44 N ) := fnC_sound (evFn_sound' (T := th) (P := Try.prog) (tbl := (auto th Try.prog (nice44r N) [] 20)) (auto_sound (nice := (nice44r N)) (us := []) (nok44r N hN) 20) (H := (autoH [(3, L44_0), (9, L44_1), (15, L44_2), (21, L44_3), (33, L44_4)] [] [] [999998] : Hints th)) (k := 44) (fnLoops ok44)) d44 A44 H44 toV44 (by kernel_rfl) (fun v => by kernel_rfl)
  (fun l v h => by
    unfold ofV44 at h
    split at h
    · cases h; rfl
    · cases h)
  [0] (fun v => ⟨ff44 N v, q44 N v, fun h => by
    unfold f44 at h; unfold ff44
    simp only [Tr.ok, n_f44_0, n_f44_3, n_f44_6, n_f44_7, n_f44_9, n_f44_10, n_f44_12, n_f44_13, n_f44_14, n_f44_16, n_f44_17, n_f44_18, n_f44_20, n_f44_21, n_f44_22, n_f44_24, n_f44_25, n_f44_26, n_f44_28, n_f44_29, n_f44_30, n_f44_32, n_f44_33, n_f44_34, n_f44_36, n_f44_38, n_f44_42, n_f44_48, n_f44_51, n_f44_54, n_f44_57, n_f44_60, n_f44_63, n_f44_66, true_and, and_true, forall_const, implies_true] at h ⊢
    try exact h, qg44 N v, qd44 N v⟩)
theorem qdd44 (N : Nat) (v : V44) : (f44 N v).get.2.2 = [0] := by
  rw [← qg44, Tr.map_get]; rfl
end Go.Sx.S

section
namespace Go.Sx.So
theorem srt_id {E : Nat → Sp} {a b : Nat} (h : SortedIn a b E) : srt E a b = E := (srt_unique (.refl _ _ _) h).symm
theorem rot_perm (E : Nat → Sp) {s m e : Nat} (h1 : s ≤ m) (h2 : m ≤ e) : PermIn s e E (rot E s m e) := by
  refine ⟨fun j hj => ?_, ?_⟩
  · unfold rot; rw [if_neg (by omega), if_neg (by omega)]
  · have e1 : seg (rot E s m e) s (e - s) = seg E m (e - m) ++ seg E s (m - s) := by
      rw [show e - s = (e - m) + (m - s) by omega, seg_add]
      congr 1
      · simp only [seg]
        refine List.map_congr_left fun i hi => ?_
        have := List.mem_range.1 hi
        unfold rot; rw [if_pos (by omega)]; congr 1; omega
      · simp only [seg]
        refine List.map_congr_left fun i hi => ?_
        have := List.mem_range.1 hi
        unfold rot; rw [if_neg (by omega), if_pos (by omega)]; congr 1; omega
    rw [e1, show e - s = (m - s) + (e - m) by omega, seg_add, show s + (m - s) = m by omega]
    exact List.perm_append_comm
theorem rot_lo {E : Nat → Sp} {s m e j : Nat} (h : j < s) : rot E s m e j = E j := by unfold rot; rw [if_neg (by omega), if_neg (by omega)]
theorem rot_a {E : Nat → Sp} {s m e j : Nat} (h1 : s ≤ j) (h2 : j < s + (e - m)) : rot E s m e j = E (m + (j - s)) := by unfold rot; rw [if_pos (by omega)]
theorem rot_b {E : Nat → Sp} {s m e j : Nat} (h1 : s + (e - m) ≤ j) (h2 : j < e) : rot E s m e j = E (j - (e - m)) := by unfold rot; rw [if_neg (by omega), if_pos (by omega)]
theorem rot_hi {E : Nat → Sp} {s m e j : Nat} (h : e ≤ j) (h2 : s ≤ m) (h3 : m ≤ e) : rot E s m e j = E j := by unfold rot; rw [if_neg (by omega), if_neg (by omega)]
theorem rot_id {E : Nat → Sp} {s m e : Nat} (h1 : s ≤ m) (h2 : m ≤ e) (h : s = m ∨ e = m) : rot E s m e = E := by
  funext j
  unfold rot
  split
  · rcases h with rfl | rfl
    · congr 1; omega
    · omega
  · split
    · rcases h with rfl | rfl
      · omega
      · congr 1; omega
    · rfl
/-- Sorted in two parts of which the one lies below the other. -/
theorem SortedIn.join {E : Nat → Sp} {a c b : Nat} (h1 : SortedIn a c E) (h2 : SortedIn c b E) (h3 : ∀ x y, a ≤ x → x < c → c ≤ y → y < b → le (E x) (E y) = true) : SortedIn a b E := by
  intro x y g1 g2 g3
  by_cases hx : x < c
  · by_cases hy : y < c
    · exact h1 x y g1 g2 hy
    · exact h3 x y g1 hx (by omega) g3
  · exact h2 x y (by omega) g2 g3
/-- What is true of all in a stretch stays so in any order. -/
theorem PermIn.all {E F : Nat → Sp} {a b : Nat} (h : PermIn a b E F) {p : Sp → Prop} (hp : ∀ j, a ≤ j → j < b → p (E j)) : ∀ j, a ≤ j → j < b → p (F j) := by
  intro j h1 h2
  have hm : F j ∈ seg F a (b - a) := by
    simp only [seg, List.mem_map, List.mem_range]
    exact ⟨j - a, by omega, by congr 1; omega⟩
  have := h.perm.mem_iff.1 hm
  simp only [seg, List.mem_map, List.mem_range] at this
  obtain ⟨i, hi, e⟩ := this
  rw [← e]
  exact hp _ (by omega) (by omega)
theorem two_sorts {E : Nat → Sp} {a c b : Nat} (hac : a ≤ c) (hcb : c ≤ b) (h : ∀ x y, a ≤ x → x < c → c ≤ y → y < b → le (E x) (E y) = true) : srt (srt E a c) c b = srt E a b := by
  have p1 := srt_perm E a c
  have p2 := srt_perm (srt E a c) c b
  refine srt_unique ((p1.mono (Nat.le_refl _) hac hcb).trans (p2.mono hac hcb (Nat.le_refl _))) ?_
  refine SortedIn.join (c := c) ?_ (srt_sorted _ _ _) ?_
  · intro x y g1 g2 g3
    rw [p2.out x (by omega), p2.out y (by omega)]
    exact srt_sorted E a c x y g1 g2 g3
  · intro x y g1 g2 g3 g4
    rw [p2.out x (by omega)]
    have q1 : ∀ y, c ≤ y → y < b → le (srt E a c x) (E y) = true := fun y k1 k2 =>
      p1.all (p := fun z => le z (E y) = true) (fun j j1 j2 => h j y j1 j2 k1 k2) x g1 g2
    exact p2.all (p := fun z => le (srt E a c x) z = true) (fun j j1 j2 => by rw [p1.out j (by omega)]; exact q1 j j1 j2) y g3 g4
theorem merge_step {E : Nat → Sp} {a m b s e mid : Nat} (h1 : a ≤ s) (h2 : s ≤ m) (h3 : m ≤ e) (h4 : e ≤ b) (hm : mid = s + (e - m)) (sl : SortedIn a m E) (sr : SortedIn m b E)
    (c1 : s = a ∨ e = b ∨ le (E (s - 1)) (E e) = true) (c2 : s = m ∨ e = m ∨ le (E (e - 1)) (E s) = true) :
    srt (srt (rot E s m e) a mid) mid b = srt E a b ∧ SortedIn a s (rot E s m e) ∧ SortedIn s mid (rot E s m e) ∧ SortedIn mid e (srt (rot E s m e) a mid) ∧ SortedIn e b (srt (rot E s m e) a mid) := by
  subst hm
  have hp := rot_perm E h2 h3
  refine ⟨?_, ?_, ?_, ?_, ?_⟩
  · rw [two_sorts (by omega) (by omega) ?_]
    · exact srt_unique ((hp.mono h1 (by omega) h4).trans (srt_perm _ _ _)) (srt_sorted _ _ _)
    · intro x y g1 g2 g3 g4
      by_cases hx : x < s
      · rw [rot_lo hx]
        by_cases hy : y < e
        · rw [rot_b g3 hy]
          exact sl x _ g1 (by omega) (by omega)
        · rw [rot_hi (by omega) h2 h3]
          rcases c1 with c | c | c
          · omega
          · omega
          · exact le_trans _ _ _ (sl x (s - 1) g1 (by omega) (by omega)) (le_trans _ _ _ c (sr e y h3 (by omega) g4))
      · rw [rot_a (by omega) g2]
        by_cases hy : y < e
        · rw [rot_b g3 hy]
          rcases c2 with c | c | c
          · omega
          · omega
          · exact le_trans _ _ _ (sr _ (e - 1) (by omega) (by omega) (by omega)) (le_trans _ _ _ c (sl s _ h1 (by omega) (by omega)))
        · rw [rot_hi (by omega) h2 h3]
          exact sr _ y (by omega) (by omega) g4
  · intro x y g1 g2 g3
    rw [rot_lo (by omega), rot_lo (by omega)]
    exact sl x y g1 g2 (by omega)
  · intro x y g1 g2 g3
    rw [rot_a g1 (by omega), rot_a (by omega) g3]
    exact sr _ _ (by omega) (by omega) (by omega)
  · intro x y g1 g2 g3
    rw [(srt_perm (rot E s m e) a _).out x (by omega), (srt_perm (rot E s m e) a _).out y (by omega), rot_b g1 (by omega), rot_b (by omega) g3]
    exact sl _ _ (by omega) (by omega) (by omega)
  · intro x y g1 g2 g3
    rw [(srt_perm (rot E s m e) a _).out x (by omega), (srt_perm (rot E s m e) a _).out y (by omega), rot_hi g1 h2 h3, rot_hi (by omega) h2 h3]
    exact sr x y (by omega) g2 g3
/-- One ahead of a sorted stretch, put where it belongs. -/
theorem ins_left {E : Nat → Sp} {a i b : Nat} (h1 : a + 1 ≤ i) (h2 : i ≤ b) (sr : SortedIn (a + 1) b E) (c1 : ∀ k, a + 1 ≤ k → k < i → le (E k) (E a) = true) (c2 : ∀ k, i ≤ k → k < b → le (E a) (E k) = true) :
    rot E a (a + 1) i = srt E a b := by
  refine srt_unique ((rot_perm E (by omega) h1).mono (Nat.le_refl _) (by omega) h2) ?_
  intro x y g1 g2 g3
  by_cases hx : x < a + (i - (a + 1))
  · rw [rot_a g1 hx]
    by_cases hy : y < a + (i - (a + 1))
    · rw [rot_a (by omega) hy]; exact sr _ _ (by omega) (by omega) (by omega)
    · by_cases hy2 : y < i
      · rw [rot_b (by omega) hy2, show y - (i - (a + 1)) = a by omega]; exact c1 _ (by omega) (by omega)
      · rw [rot_hi (by omega) (by omega) h1]; exact sr _ _ (by omega) (by omega) g3
  · by_cases hx2 : x < i
    · rw [rot_b (by omega) hx2, show x - (i - (a + 1)) = a by omega]
      by_cases hy2 : y < i
      · rw [rot_b (by omega) hy2, show y - (i - (a + 1)) = a by omega]; exact le_refl _
      · rw [rot_hi (by omega) (by omega) h1]; exact c2 _ (by omega) g3
    · rw [rot_hi (by omega) (by omega) h1, rot_hi (by omega) (by omega) h1]; exact sr _ _ (by omega) g2 g3
theorem ins_right {E : Nat → Sp} {a i m : Nat} (h1 : a ≤ i) (h2 : i ≤ m) (sl : SortedIn a m E) (c1 : ∀ k, a ≤ k → k < i → le (E k) (E m) = true) (c2 : ∀ k, i ≤ k → k < m → le (E m) (E k) = true) :
    rot E i m (m + 1) = srt E a (m + 1) := by
  refine srt_unique ((rot_perm E h2 (by omega)).mono h1 (by omega) (Nat.le_refl _)) ?_
  intro x y g1 g2 g3
  by_cases hx : x < i
  · rw [rot_lo hx]
    by_cases hy : y < i
    · rw [rot_lo hy]; exact sl _ _ g1 g2 (by omega)
    · by_cases hy2 : y < i + (m + 1 - m)
      · rw [rot_a (by omega) hy2, show m + (y - i) = m by omega]; exact c1 _ g1 hx
      · rw [rot_b (by omega) g3]; exact sl _ _ g1 (by omega) (by omega)
  · by_cases hx2 : x < i + (m + 1 - m)
    · rw [rot_a (by omega) hx2, show m + (x - i) = m by omega]
      by_cases hy2 : y < i + (m + 1 - m)
      · rw [rot_a (by omega) hy2, show m + (y - i) = m by omega]; exact le_refl _
      · rw [rot_b (by omega) g3]; exact c2 _ (by omega) (by omega)
    · rw [rot_b (by omega) (by omega), rot_b (by omega) g3]; exact sl _ _ (by omega) (by omega) (by omega)
/-- One moved on by one place more. -/
theorem rot_up (E : Nat → Sp) {a k : Nat} (h : a ≤ k) : swp (rot E a (a + 1) (k + 1)) (k + 1) k = rot E a (a + 1) (k + 2) := by
  funext j
  simp only [swp, rot]
  grind
theorem rot_down (E : Nat → Sp) {m k : Nat} (h : k ≤ m) (hk : 0 < k) : swp (rot E k m (m + 1)) (k - 1) k = rot E (k - 1) m (m + 1) := by
  funext j
  simp only [swp, rot]
  grind
end Go.Sx.So

end

namespace Go.Sx.S
open Go Go.Sx Go.Proofs Go.RowKit So
theorem half {x y : Nat} (h : x + y < 4611686018427387904) : IntKind.i64.wrap ((IntKind.u64.wrap (IntKind.i64.wrap ((x : Int) + y))).fdiv 2) = (((x + y) / 2 : Nat) : Int) := by
  have e1 : IntKind.i64.wrap ((x : Int) + y) = (x : Int) + y := wi (by omega) (by omega)
  have e2 : IntKind.u64.wrap ((x : Int) + y) = (x : Int) + y := wrap_u64_id (by omega) (by omega)
  have e3 : ((x : Int) + y).fdiv 2 = (((x + y) / 2 : Nat) : Int) := by
    rw [Int.fdiv_eq_ediv_of_nonneg _ (by omega)]; omega
  rw [e1, e2, e3]
  exact wi (by omega) (by omega)
/-- The comparison, of two places of a row. -/
theorem cmpAt (F G : Nat → Int) (i j : Nat) : decide (f33_1 (F i) (G i) (F j) (G j) < 0) = !(le (sp F G j) (sp F G i)) := cmp33 (sp F G i) (sp F G j)
theorem l44_0 {L a m b M : Nat} {F G : Nat → Int} (h1 : a < m) (h2 : m ≤ b) (h3 : b ≤ L) (h4 : L ≤ M) (h5 : L < 2305843009213693952) (sr : SortedIn m b (sp F G)) :
    LT (r44_0 (P44_0.mk L a M F G)) (S44_0.mk m b) ∧ ∃ i : Nat, (lastS (r44_0 (P44_0.mk L a M F G)) (S44_0.mk m b)).x10 = i ∧ m ≤ i ∧ i ≤ b ∧ (∀ k, m ≤ k → k < i → le (sp F G k) (sp F G a) = true) ∧ ∀ k, i ≤ k → k < b → le (sp F G a) (sp F G k) = true := by
  refine LT.post (fun s : S44_0 => ∃ i j : Nat, s.x10 = i ∧ s.x11 = j ∧ m ≤ i ∧ i ≤ j ∧ j ≤ b ∧ (∀ k, m ≤ k → k < i → le (sp F G k) (sp F G a) = true) ∧ ∀ k, j ≤ k → k < b → le (sp F G a) (sp F G k) = true)
    (fun s : S44_0 => ∃ i : Nat, s.x10 = i ∧ m ≤ i ∧ i ≤ b ∧ (∀ k, m ≤ k → k < i → le (sp F G k) (sp F G a) = true) ∧ ∀ k, i ≤ k → k < b → le (sp F G a) (sp F G k) = true) (fun s : S44_0 => (s.x11 - s.x10).toNat) ?_ ?_
  rotate_left
  · exact ⟨m, b, rfl, rfl, Nat.le_refl _, h2, Nat.le_refl _, fun k q1 q2 => by omega, fun k q1 q2 => by omega⟩
  rintro ⟨x, y⟩ ⟨i, j, g1, g2, g3, g4, g5, g6, g7⟩
  simp only at g1 g2
  subst g1 g2
  have hh := half (x := i) (y := j) (by omega)
  have w1 : IntKind.i64.wrap (((((i + j) / 2 : Nat) : Int)) + 1) = (((i + j) / 2 + 1 : Nat) : Int) := by rw [wi (by omega) (by omega)]; omega
  simp only [r44_0, e44_0_0, e44_0_3, e44_0_5, e44_0_6, Tr.ok, Tr.get, hh, Nat.zero_add, Int.toNat_natCast, cmpAt, w1]
  by_cases hc : i < j
  · rw [show cnd (decide ((i : Int) < j)) false true = false from by rw [decide_eq_true (by omega)]; rfl]
    refine ⟨⟨(fun e => by cases e), fun _ => ⟨⟨fun _ => by omega, fun _ => by omega, fun _ => by omega, fun _ => by omega⟩, trivial⟩⟩, .inr ⟨_, rfl, ?_⟩⟩
    cases hl : le (sp F G a) (sp F G ((i + j) / 2)) with
    | true =>
      refine ⟨⟨i, (i + j) / 2, rfl, rfl, g3, by omega, by omega, g6, fun k q1 q2 => ?_⟩, by simp only [Bool.not_true, cnd]; omega⟩
      exact le_trans _ _ _ hl (sr _ _ (by omega) q1 q2)
    | false =>
      refine ⟨⟨(i + j) / 2 + 1, j, rfl, rfl, by omega, by omega, g5, fun k q1 q2 => ?_, g7⟩, by simp only [Bool.not_false, cnd]; omega⟩
      exact le_trans _ _ _ (sr k _ q1 (by omega) (by omega)) (le_false hl)
  · rw [show cnd (decide ((i : Int) < j)) false true = true from by rw [decide_eq_false (by omega)]; rfl]
    have : i = j := by omega
    subst this
    exact ⟨⟨fun _ => trivial, (fun e => by cases e)⟩, .inl ⟨⟨_, _, _, rfl⟩, i, rfl, g3, g5, g6, g7⟩⟩
theorem l44_1 {L a i M : Nat} {F G : Nat → Int} (h1 : a + 1 ≤ i) (h3 : i ≤ L) (h4 : L ≤ M) (h5 : L < 2305843009213693952) :
    LT (r44_1 (P44_1.mk L i M)) (S44_1.mk a F G) ∧ (fun s : S44_1 => sp s.F0_0 s.F0_1 = rot (sp F G) a (a + 1) i) (lastS (r44_1 (P44_1.mk L i M)) (S44_1.mk a F G)) := by
  refine LT.post (fun s : S44_1 => ∃ k : Nat, s.x13 = k ∧ a ≤ k ∧ k + 1 ≤ i ∧ sp s.F0_0 s.F0_1 = rot (sp F G) a (a + 1) (k + 1)) (fun s : S44_1 => sp s.F0_0 s.F0_1 = rot (sp F G) a (a + 1) i) (fun s : S44_1 => (i - s.x13).toNat) ?_ ?_
  rotate_left
  · exact ⟨a, rfl, Nat.le_refl _, h1, (rot_id (by omega) (by omega) (.inr rfl)).symm⟩
  rintro ⟨x, F', G'⟩ ⟨k, g1, g2, g3, g4⟩
  simp only at g1 g4
  subst g1
  have w1 : IntKind.i64.wrap ((k : Int) + 1) = ((k + 1 : Nat) : Int) := by rw [wi (by omega) (by omega)]; omega
  have w2 : IntKind.i64.wrap ((i : Int) - 1) = ((i - 1 : Nat) : Int) := by rw [wi (by omega) (by omega)]; omega
  simp only [r44_1, e44_1_0, e44_1_2, e44_1_4, Tr.ok, Tr.get, Nat.zero_add, Int.toNat_natCast, w1, w2]
  by_cases hc : k < i - 1
  · rw [show cnd (decide ((k : Int) < ((i - 1 : Nat) : Int))) false true = false from by rw [decide_eq_true (by omega)]; rfl]
    refine ⟨⟨(fun e => by cases e), fun _ => ⟨⟨fun _ => by omega, fun _ => by omega, fun _ => by omega, fun _ => by omega, fun _ => by omega, ⟨by omega, trivial⟩, fun _ => by omega, by omega, trivial⟩, trivial⟩⟩, .inr ⟨_, rfl, ⟨k + 1, rfl, by omega, by omega, ?_⟩, by simp only; omega⟩⟩
    rw [← rot_up _ g2, ← g4]
    funext j
    simp only [sp, e44_1_5, e44_1_6, w1, swp, cndB, beqT, Nat.zero_add, Int.toNat_natCast]
    split <;> (try split) <;> rfl
  · rw [show cnd (decide ((k : Int) < ((i - 1 : Nat) : Int))) false true = true from by rw [decide_eq_false (by omega)]; rfl]
    have : k + 1 = i := by omega
    subst this
    exact ⟨⟨fun _ => trivial, (fun e => by cases e)⟩, .inl ⟨⟨_, _, _, rfl⟩, g4⟩⟩
theorem l44_2 {L a m M : Nat} {F G : Nat → Int} (h1 : a ≤ m) (h3 : m < L) (h4 : L ≤ M) (h5 : L < 2305843009213693952) (sl : SortedIn a m (sp F G)) :
    LT (r44_2 (P44_2.mk L m M F G)) (S44_2.mk a m) ∧ ∃ i : Nat, (lastS (r44_2 (P44_2.mk L m M F G)) (S44_2.mk a m)).x14 = i ∧ a ≤ i ∧ i ≤ m ∧ (∀ k, a ≤ k → k < i → le (sp F G k) (sp F G m) = true) ∧ ∀ k, i ≤ k → k < m → le (sp F G m) (sp F G k) = true := by
  refine LT.post (fun s : S44_2 => ∃ i j : Nat, s.x14 = i ∧ s.x15 = j ∧ a ≤ i ∧ i ≤ j ∧ j ≤ m ∧ (∀ k, a ≤ k → k < i → le (sp F G k) (sp F G m) = true) ∧ ∀ k, j ≤ k → k < m → le (sp F G m) (sp F G k) = true)
    (fun s : S44_2 => ∃ i : Nat, s.x14 = i ∧ a ≤ i ∧ i ≤ m ∧ (∀ k, a ≤ k → k < i → le (sp F G k) (sp F G m) = true) ∧ ∀ k, i ≤ k → k < m → le (sp F G m) (sp F G k) = true) (fun s : S44_2 => (s.x15 - s.x14).toNat) ?_ ?_
  rotate_left
  · exact ⟨a, m, rfl, rfl, Nat.le_refl _, h1, Nat.le_refl _, fun k q1 q2 => by omega, fun k q1 q2 => by omega⟩
  rintro ⟨x, y⟩ ⟨i, j, g1, g2, g3, g4, g5, g6, g7⟩
  simp only at g1 g2
  subst g1 g2
  have hh := half (x := i) (y := j) (by omega)
  have w1 : IntKind.i64.wrap (((((i + j) / 2 : Nat) : Int)) + 1) = (((i + j) / 2 + 1 : Nat) : Int) := by rw [wi (by omega) (by omega)]; omega
  simp only [r44_2, e44_2_0, e44_2_3, e44_2_5, e44_2_6, Tr.ok, Tr.get, hh, Nat.zero_add, Int.toNat_natCast, cmpAt, w1, Bool.not_not]
  by_cases hc : i < j
  · rw [show cnd (decide ((i : Int) < j)) false true = false from by rw [decide_eq_true (by omega)]; rfl]
    refine ⟨⟨(fun e => by cases e), fun _ => ⟨⟨fun _ => by omega, fun _ => by omega, fun _ => by omega, fun _ => by omega⟩, trivial⟩⟩, .inr ⟨_, rfl, ?_⟩⟩
    cases hl : le (sp F G ((i + j) / 2)) (sp F G m) with
    | true =>
      refine ⟨⟨(i + j) / 2 + 1, j, rfl, rfl, by omega, by omega, g5, fun k q1 q2 => ?_, g7⟩, by simp only [cnd]; omega⟩
      exact le_trans _ _ _ (sl k _ q1 (by omega) (by omega)) hl
    | false =>
      refine ⟨⟨i, (i + j) / 2, rfl, rfl, g3, by omega, by omega, g6, fun k q1 q2 => ?_⟩, by simp only [cnd]; omega⟩
      exact le_trans _ _ _ (le_false hl) (sl _ _ (by omega) q1 q2)
  · rw [show cnd (decide ((i : Int) < j)) false true = true from by rw [decide_eq_false (by omega)]; rfl]
    have : i = j := by omega
    subst this
    exact ⟨⟨fun _ => trivial, (fun e => by cases e)⟩, .inl ⟨⟨_, _, _, rfl⟩, i, rfl, g3, g5, g6, g7⟩⟩
theorem l44_3 {L i m M : Nat} {F G : Nat → Int} (h1 : i ≤ m) (h3 : m < L) (h4 : L ≤ M) (h5 : L < 2305843009213693952) :
    LT (r44_3 (P44_3.mk L i M)) (S44_3.mk m F G) ∧ (fun s : S44_3 => sp s.F0_0 s.F0_1 = rot (sp F G) i m (m + 1)) (lastS (r44_3 (P44_3.mk L i M)) (S44_3.mk m F G)) := by
  refine LT.post (fun s : S44_3 => ∃ k : Nat, s.x17 = k ∧ i ≤ k ∧ k ≤ m ∧ sp s.F0_0 s.F0_1 = rot (sp F G) k m (m + 1)) (fun s : S44_3 => sp s.F0_0 s.F0_1 = rot (sp F G) i m (m + 1)) (fun s : S44_3 => s.x17.toNat) ?_ ?_
  rotate_left
  · exact ⟨m, rfl, h1, Nat.le_refl _, (rot_id (by omega) (by omega) (.inl rfl)).symm⟩
  rintro ⟨x, F', G'⟩ ⟨k, g1, g2, g3, g4⟩
  simp only at g1 g4
  subst g1
  simp only [r44_3, e44_3_0, e44_3_2, e44_3_4, Tr.ok, Tr.get, Nat.zero_add, Int.toNat_natCast]
  by_cases hc : i < k
  · have w1 : IntKind.i64.wrap ((k : Int) - 1) = ((k - 1 : Nat) : Int) := by rw [wi (by omega) (by omega)]; omega
    simp only [w1, Int.toNat_natCast]
    rw [show cnd (decide ((k : Int) > (i : Int))) false true = false from by rw [decide_eq_true (by omega)]; rfl]
    refine ⟨⟨(fun e => by cases e), fun _ => ⟨⟨fun _ => by omega, fun _ => by omega, fun _ => by omega, fun _ => by omega, fun _ => by omega, ⟨by omega, trivial⟩, fun _ => by omega, by omega, trivial⟩, trivial⟩⟩, .inr ⟨_, rfl, ⟨k - 1, rfl, by omega, by omega, ?_⟩, by simp only; omega⟩⟩
    rw [← rot_down _ g3 (by omega), ← g4]
    funext j
    simp only [sp, e44_3_5, e44_3_6, w1, swp, cndB, beqT, Nat.zero_add, Int.toNat_natCast]
    split <;> (try split) <;> rfl
  · rw [show cnd (decide ((k : Int) > (i : Int))) false true = true from by rw [decide_eq_false (by omega)]; rfl]
    have : k = i := by omega
    subst this
    exact ⟨⟨fun _ => trivial, (fun e => by cases e)⟩, .inl ⟨⟨_, _, _, rfl⟩, g4⟩⟩
theorem l44_4 {L M s0 r0 n : Nat} {F G : Nat → Int} (x1 x2 x3 x18 x19 : Int) (h1 : s0 ≤ r0) (h2 : r0 < n) (h3 : n - 1 < s0 + L) (h3' : r0 ≤ L) (h4 : L ≤ M) (h5 : L < 2305843009213693952) :
    LT (r44_4 (P44_4.mk L x1 x2 x3 x18 x19 ((n - 1 : Nat) : Int) M F G)) (S44_4.mk s0 r0) ∧
      ∃ s : Nat, (lastS (r44_4 (P44_4.mk L x1 x2 x3 x18 x19 ((n - 1 : Nat) : Int) M F G)) (S44_4.mk s0 r0)).x20 = s ∧ s0 ≤ s ∧ s ≤ r0 ∧ (s = s0 ∨ le (sp F G (s - 1)) (sp F G (n - s)) = true) ∧ (s = r0 ∨ le (sp F G (n - s - 1)) (sp F G s) = true) := by
  refine LT.post (fun z : S44_4 => ∃ s r : Nat, z.x20 = s ∧ z.x21 = r ∧ s0 ≤ s ∧ s ≤ r ∧ r ≤ r0 ∧ (s = s0 ∨ le (sp F G (s - 1)) (sp F G (n - s)) = true) ∧ (r = r0 ∨ le (sp F G (n - r - 1)) (sp F G r) = true))
    (fun z : S44_4 => ∃ s : Nat, z.x20 = s ∧ s0 ≤ s ∧ s ≤ r0 ∧ (s = s0 ∨ le (sp F G (s - 1)) (sp F G (n - s)) = true) ∧ (s = r0 ∨ le (sp F G (n - s - 1)) (sp F G s) = true)) (fun z : S44_4 => (z.x21 - z.x20).toNat) ?_ ?_
  rotate_left
  · exact ⟨s0, r0, rfl, rfl, Nat.le_refl _, h1, Nat.le_refl _, .inl rfl, .inl rfl⟩
  rintro ⟨x, y⟩ ⟨i, j, g1, g2, g3, g4, g5, g6, g7⟩
  simp only at g1 g2
  subst g1 g2
  have hh := half (x := i) (y := j) (by omega)
  simp only [r44_4, e44_4_0, e44_4_3, e44_4_5, e44_4_6, Tr.ok, Tr.get, hh, Nat.zero_add, Int.toNat_natCast]
  by_cases hc : i < j
  · have w1 : IntKind.i64.wrap (((((i + j) / 2 : Nat) : Int)) + 1) = (((i + j) / 2 + 1 : Nat) : Int) := by rw [wi (by omega) (by omega)]; omega
    have w2 : IntKind.i64.wrap (((n - 1 : Nat) : Int) - (((i + j) / 2 : Nat) : Int)) = ((n - 1 - (i + j) / 2 : Nat) : Int) := by rw [wi (by omega) (by omega)]; omega
    simp only [w1, w2, Int.toNat_natCast, cmpAt, Bool.not_not]
    rw [show cnd (decide ((i : Int) < j)) false true = false from by rw [decide_eq_true (by omega)]; rfl]
    refine ⟨⟨(fun e => by cases e), fun _ => ⟨⟨fun _ => by omega, fun _ => by omega, fun _ => by omega, fun _ => by omega⟩, trivial⟩⟩, .inr ⟨_, rfl, ?_⟩⟩
    cases hl : le (sp F G ((i + j) / 2)) (sp F G (n - 1 - (i + j) / 2)) with
    | true =>
      refine ⟨⟨(i + j) / 2 + 1, j, rfl, rfl, by omega, by omega, g5, .inr ?_, g7⟩, by simp only [cnd]; omega⟩
      rw [show (i + j) / 2 + 1 - 1 = (i + j) / 2 by omega, show n - ((i + j) / 2 + 1) = n - 1 - (i + j) / 2 by omega]
      exact hl
    | false =>
      refine ⟨⟨i, (i + j) / 2, rfl, rfl, g3, by omega, by omega, g6, .inr ?_⟩, by simp only [cnd]; omega⟩
      rw [show n - (i + j) / 2 - 1 = n - 1 - (i + j) / 2 by omega]
      exact le_false hl
  · rw [show cnd (decide ((i : Int) < j)) false true = true from by rw [decide_eq_false (by omega)]; rfl]
    have : i = j := by omega
    subst this
    exact ⟨⟨fun _ => trivial, (fun e => by cases e)⟩, .inl ⟨⟨_, _, _, rfl⟩, i, rfl, g3, g5, g6, g7⟩⟩
theorem sp_eta (X : Nat → Sp) : sp (fun j => (X j).fst) (fun j => (X j).snd) = X := rfl
theorem cndT {a b : Bool} : (cnd a b false = true) ↔ a = true ∧ b = true := by cases a <;> cases b <;> simp [cnd]
theorem cndF {a b : Bool} : (cnd a b false = false) ↔ a = false ∨ b = false := by cases a <;> cases b <;> simp [cnd]
set_option maxHeartbeats 2000000 in
theorem l44 (N : Nat) (v : V44) (h : pre44 v) (hN : v.b - v.a < (N + 1 : Nat)) : (f44 N v).ok ∧ (f44 N v).get.1 = .tup [] ∧ (f44 N v).get.2.2 = [0] ∧ HOws (f44 N v).get.2.1 [rowP v.M (srt (sp v.F v.G) v.a.toNat v.b.toNat)] := by
  obtain ⟨L, a, m, b, M, F, G⟩ := v
  obtain ⟨h1, h2, h3, h4, h5, h6, sl, sr⟩ := h
  simp only at h1 h2 h3 h4 h5 h6 sl sr hN ⊢
  obtain ⟨a, rfl⟩ := Int.eq_ofNat_of_zero_le h1
  obtain ⟨m, rfl⟩ := Int.eq_ofNat_of_zero_le (show 0 ≤ m by omega)
  obtain ⟨b, rfl⟩ := Int.eq_ofNat_of_zero_le (show 0 ≤ b by omega)
  simp only [Int.toNat_natCast] at sl sr ⊢
  have w1 : IntKind.i64.wrap ((m : Int) - a) = ((m - a : Nat) : Int) := by rw [wi (by omega) (by omega)]; omega
  have w2 : IntKind.i64.wrap ((b : Int) - m) = ((b - m : Nat) : Int) := by rw [wi (by omega) (by omega)]; omega
  by_cases c1 : m = a + 1
  · have e1 : (((m - a : Nat) : Int) == 1) = true := by simp; omega
    subst c1
    obtain ⟨p1, i, p2, p3, p4, p5, p6⟩ := l44_0 (L := L) (M := M) (a := a) (m := a + 1) (b := b) (F := F) (G := G) (by omega) (by omega) (by omega) h5 h6 sr
    obtain ⟨q1, q2⟩ := l44_1 (L := L) (M := M) (a := a) (i := i) (F := F) (G := G) p3 (by omega) h5 h6
    have hz : (f44z0 N (V44.mk L a (a + 1 : Nat) b M F G)).x10 = i := p2
    refine ⟨?_, ?_⟩
    · simp only [f44, Tr.ok, implies_true, and_true, f44_1, f44_2, f44_4, f44_5, f44_8, f44_11, f44_15, f44_19, f44_23, f44_27, f44_31, f44_35, w1, e1, hz, forall_const, Bool.true_eq_false, false_implies]
      exact ⟨p1, q1⟩
    · simp only [f44, Tr.get, f44_37, w1, e1, true_and]
      refine .cons (.row fun j _ => ?_) .nil
      have e := congrFun q2 j
      rw [ins_left p3 p4 sr p5 p6] at e
      simp only [f44_39, f44_40, f44z3, hz]
      rw [← e]; rfl
  · have e1 : (((m - a : Nat) : Int) == 1) = false := by simp; omega
    by_cases c2 : b = m + 1
    · have e2 : (((b - m : Nat) : Int) == 1) = true := by simp; omega
      subst c2
      obtain ⟨p1, i, p2, p3, p4, p5, p6⟩ := l44_2 (L := L) (M := M) (a := a) (m := m) (F := F) (G := G) (by omega) (by omega) h5 h6 sl
      obtain ⟨q1, q2⟩ := l44_3 (L := L) (M := M) (i := i) (m := m) (F := F) (G := G) p4 (by omega) h5 h6
      have hz : (f44z1 N (V44.mk L a m (m + 1 : Nat) M F G)).x14 = i := p2
      refine ⟨?_, ?_⟩
      · simp only [f44, Tr.ok, implies_true, and_true, f44_1, f44_2, f44_4, f44_5, f44_8, f44_11, f44_15, f44_19, f44_23, f44_27, f44_31, f44_35, w1, w2, e1, e2, hz, forall_const, Bool.true_eq_false, Bool.false_eq_true, false_implies, true_and]
        exact ⟨p1, q1⟩
      · simp only [f44, Tr.get, f44_37, f44_41, w1, w2, e1, e2, true_and]
        refine .cons (.row fun j _ => ?_) .nil
        have e := congrFun q2 j
        rw [ins_right p3 p4 sl p5 p6] at e
        simp only [f44_43, f44_44, f44z4, hz]
        rw [← e]; rfl
    · have e2 : (((b - m : Nat) : Int) == 1) = false := by simp; omega
      have hm := half (x := a) (y := b) (by omega)
      generalize hmid : (a + b) / 2 = mid at hm
      have w3 : IntKind.i64.wrap ((mid : Int) + m) = ((mid + m : Nat) : Int) := by rw [wi (by omega) (by omega)]; omega
      have w4 : IntKind.i64.wrap (((mid + m : Nat) : Int) - 1) = ((mid + m - 1 : Nat) : Int) := by rw [wi (by omega) (by omega)]; omega
      have w5 : IntKind.i64.wrap (((mid + m : Nat) : Int) - b) = ((mid : Int) + m - b) := by rw [wi (by omega) (by omega)]; omega
      -- the search
      obtain ⟨s0, r0, b1, b2, b3⟩ : ∃ s0 r0 : Nat, (cnd (decide ((m : Int) > mid)) ((mid : Int) + m - b) (a : Int)) = s0 ∧ (cnd (decide ((m : Int) > mid)) (mid : Int) (m : Int)) = r0 ∧ ((mid < m ∧ s0 = mid + m - b ∧ r0 = mid) ∨ (m ≤ mid ∧ s0 = a ∧ r0 = m)) := by
        by_cases hc : mid < m
        · rw [decide_eq_true (show (m : Int) > mid by omega)]
          exact ⟨mid + m - b, mid, by simp only [cnd]; omega, rfl, .inl ⟨hc, rfl, rfl⟩⟩
        · rw [decide_eq_false (show ¬ (m : Int) > mid by omega)]
          exact ⟨a, m, rfl, rfl, .inr ⟨by omega, rfl, rfl⟩⟩
      obtain ⟨p1, s, p2, p3, p4, p5, p6⟩ := l44_4 (L := L) (M := M) (s0 := s0) (r0 := r0) (n := mid + m) (F := F) (G := G) a m b mid (mid + m : Nat) (by omega) (by omega) (by omega) (by omega) h5 h6
      have hz : (f44z2 N (V44.mk L a m b M F G)).x20 = s := by
        unfold f44z2
        simp only [hm, w3, w4, w5, b1, b2]
        exact p2
      have w6 : IntKind.i64.wrap (((mid + m : Nat) : Int) - s) = ((mid + m - s : Nat) : Int) := by rw [wi (by omega) (by omega)]; omega
      obtain ⟨k1, k2, k3, k4, k5⟩ := merge_step (E := sp F G) (a := a) (m := m) (b := b) (s := s) (e := mid + m - s) (mid := mid) (by omega) (by omega) (by omega) (by omega) (by omega) sl sr
        (by rcases p5 with p5 | p5
            · rcases b3 with ⟨_, b3, _⟩ | ⟨_, b3, _⟩
              · exact .inr (.inl (by omega))
              · exact .inl (by omega)
            · exact .inr (.inr p5))
        (by rcases p6 with p6 | p6
            · rcases b3 with ⟨_, _, b3⟩ | ⟨_, _, b3⟩
              · exact .inr (.inl (by omega))
              · exact .inl (by omega)
            · exact .inr (.inr p6))
      have f45 : ∀ x, x = cnd (decide ((s : Int) < m)) (decide ((m : Int) < ((mid + m - s : Nat) : Int))) false → x = false → rot (sp F G) s m (mid + m - s) = sp F G := by
        intro x hx hf
        rw [hx, cndF, decide_eq_false_iff_not, decide_eq_false_iff_not] at hf
        exact rot_id (by omega) (by omega) (by omega)
      have f46 : ∀ x, x = cnd (decide ((a : Int) < s)) (decide ((s : Int) < mid)) false → x = false → srt (rot (sp F G) s m (mid + m - s)) a mid = rot (sp F G) s m (mid + m - s) := by
        intro x hx hf
        rw [hx, cndF, decide_eq_false_iff_not, decide_eq_false_iff_not] at hf
        refine srt_id ?_
        by_cases hs : s = a
        · rw [← hs]; exact k3
        · have : s = mid := by omega
          subst this; exact k2
      have f47 : ∀ x, x = cnd (decide ((mid : Int) < ((mid + m - s : Nat) : Int))) (decide (((mid + m - s : Nat) : Int) < b)) false → x = false → srt (sp F G) a b = srt (rot (sp F G) s m (mid + m - s)) a mid := by
        intro x hx hf
        rw [hx, cndF, decide_eq_false_iff_not, decide_eq_false_iff_not] at hf
        rw [← k1]
        refine srt_id ?_
        by_cases hs : mid + m - s = b
        · rw [← hs]; exact k4
        · have : mid + m - s = mid := by omega
          exact k5.mono (by omega) (Nat.le_refl _)
      have t46 : ∀ X, cnd (decide ((a : Int) < s)) (decide ((s : Int) < mid)) false = true → X = rot (sp F G) s m (mid + m - s) → pre44 (V44.mk L a s mid M (fun j => (X j).fst) (fun j => (X j).snd)) ∧ (mid : Int) - a < N := by
        intro X hx e
        rw [cndT, decide_eq_true_iff, decide_eq_true_iff] at hx
        refine ⟨⟨by simp only; omega, by simp only; omega, by simp only; omega, by simp only; omega, h5, h6, ?_, ?_⟩, by omega⟩
        · simp only [Int.toNat_natCast, sp_eta]; rw [e]; exact k2
        · simp only [Int.toNat_natCast, sp_eta]; rw [e]; exact k3
      have t47 : ∀ X, cnd (decide ((mid : Int) < ((mid + m - s : Nat) : Int))) (decide (((mid + m - s : Nat) : Int) < b)) false = true → X = srt (rot (sp F G) s m (mid + m - s)) a mid → pre44 (V44.mk L mid ((mid + m - s : Nat) : Int) b M (fun j => (X j).fst) (fun j => (X j).snd)) ∧ (b : Int) - mid < N := by
        intro X hx e
        rw [cndT, decide_eq_true_iff, decide_eq_true_iff] at hx
        refine ⟨⟨by simp only; omega, by simp only; omega, by simp only; omega, by simp only; omega, h5, h6, ?_, ?_⟩, by omega⟩
        · simp only [Int.toNat_natCast, sp_eta]; rw [e]; exact k4
        · simp only [Int.toNat_natCast, sp_eta]; rw [e]; exact k5
      refine ⟨?_, ?_⟩
      · simp only [f44, Tr.ok, implies_true, and_true, f44_1, f44_2, f44_4, f44_5, f44_8, f44_11, f44_15, f44_19, f44_23, f44_27, f44_31, f44_35, w1, w2, e1, e2, forall_const, Bool.true_eq_false, Bool.false_eq_true, false_implies, true_and, hz, hm, w3, w4, w5, w6, b1, b2, Int.toNat_natCast]
        refine ⟨p1, ?_, ?_, ?_, ?_, ?_, ?_, ?_⟩
        · intro hx
          rw [cndT, decide_eq_true_iff, decide_eq_true_iff] at hx
          exact ⟨by simp only; omega, by simp only; omega, by simp only; omega, by simp only; omega, h5, by simp only; omega⟩
        · intro x1 x2; exact t46 _ x2 rfl
        · intro x1 x2 x3; exact t47 _ x3 rfl
        · intro x1 x2 x3; exact t47 _ x3 (f46 _ rfl x2).symm
        · intro x1 x2; exact t46 (sp F G) x2 (f45 _ rfl x1).symm
        · intro x1 x2 x3; exact t47 _ x3 (by rw [f45 _ rfl x1])
        · intro x1 x2 x3; exact t47 (sp F G) x3 (by rw [f46 _ rfl x2, f45 _ rfl x1])
      · simp only [f44, Tr.get, f44_37, f44_41, f44_45, f44_46, f44_47, w1, w2, e1, e2, hz, hm, w3, w6]
        generalize x1 : cnd (decide ((s : Int) < m)) (decide ((m : Int) < ((mid + m - s : Nat) : Int))) false = y1
        generalize x2 : cnd (decide ((a : Int) < s)) (decide ((s : Int) < mid)) false = y2
        generalize x3 : cnd (decide ((mid : Int) < ((mid + m - s : Nat) : Int))) (decide (((mid + m - s : Nat) : Int) < b)) false = y3
        have g1 := f45 y1 x1.symm
        have g2 := f46 y2 x2.symm
        have g3 := f47 y3 x3.symm
        cases y1 <;> cases y2 <;> cases y3 <;> (refine ⟨rfl, rfl, .cons (.row fun j _ => ?_) .nil⟩) <;>
          simp only [f44_49, f44_50, f44_52, f44_53, f44_55, f44_56, f44_58, f44_59, f44_61, f44_62, f44_64, f44_65, f44_67, f44_68, hz, hm, w3, w6, Int.toNat_natCast, sp_eta, forall_const, Bool.true_eq_false, Bool.false_eq_true, false_implies] at g1 g2 g3 ⊢
        · rw [g3, g2, g1]; rfl
        · rw [← k1, g2, g1]
        · rw [g3, g1]
        · rw [← k1, g1]
        · rw [g3, g2]
        · rw [← k1, g2]
        · rw [g3]
        · rw [← k1]
theorem s44r : ∀ N, Sound Try.prog th 44 (C44r N)
  | 0 => fun args h t e hok => by
    exfalso
    unfold C44r fnC at e
    split at e
    case h_2 => cases e
    split at e
    case h_2 => cases e
    rename_i v _
    obtain ⟨_, u, hu, hok, _⟩ := needing_spec e hok
    cases hu
    obtain ⟨⟨hp, h0⟩, _⟩ := (Tr.map_ok _ _).1 hok
    have := hp.2.1
    have := hp.2.2.1
    omega
  | N + 1 => fnC_refine (s44 N (s44r N)) fun v h => by
    obtain ⟨⟨hp, hN⟩, _⟩ := h
    obtain ⟨a, b, c, d⟩ := l44 N v hp hN
    exact ⟨a, b.symm, c.symm, d, Nat.le_refl _⟩
noncomputable def f44n (v : V44) : Tr (Fin th.R) := .need (pre44 v) (.leaf (.tup [], [rowP v.M (So.srt (sp v.F v.G) v.a.toNat v.b.toNat)], [0]))
noncomputable def C44n : CF th.R := fnC d44 ofV44 f44n
theorem s44n : Sound Try.prog th 44 C44n := fnC_all s44r fun v h => by
  obtain ⟨hp, _⟩ := h
  have h1 := hp.1
  have h2 := hp.2.1
  have h3 := hp.2.2.1
  exact ⟨(v.b - v.a).toNat + 1, ⟨⟨hp, by omega⟩, trivial⟩, rfl⟩
noncomputable def nice44n : List (Nat × CF th.R) := (44, lift C44n) :: nice43n
theorem nok44n : NiceOk Try.prog th nice44n := ⟨lift_sound s44n, nok43n⟩
end Go.Sx.S

