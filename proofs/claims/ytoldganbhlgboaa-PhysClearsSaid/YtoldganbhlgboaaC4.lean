/- Contracts of the functions of this seat, each by the executor and the kernel; part 4. Their conditions stand in each. -/
import Derived.Test.YtoldganbhlgboaaC3
set_option linter.unusedVariables false
set_option linter.unusedSimpArgs false
namespace Go.Sx.M
open Go Go.Sx Go.Proofs Go.RowKit
set_option maxRecDepth 100000
structure V19 where
  L : Nat
  at_ : Int
  n : Int
  Q : Nat
  ob_ : Obj
  ok : Nat → Int
  oa : Nat → Int
  ow : Nat → Int
def A19 (v : V19) : List SV := [.slc 0 3 0 v.L, .int .u64 v.at_, .int .u64 v.n]
def H19 (v : V19) : List (HO th.R) := [.ro 108 3 v.Q (fun j => [.int .i64 (v.ok j), .int .u64 (v.oa j), .int .u64 (v.ow j)]) v.ob_]
def toV19 (v : V19) : List (Vl th.R) := [.n v.L, .i v.at_, .i v.n, .n v.Q, .o v.ob_, .c v.ok, .c v.oa, .c v.ow]
def ofV19 : List (Vl th.R) → Option V19
  | [.n L, .i at_, .i n, .n Q, .o ob_, .c ok, .c oa, .c ow] => some ⟨L, at_, n, Q, ob_, ok, oa, ow⟩
  | _ => none
def d19 : Ft := ⟨[.slc0 0 3, .int .u64, .int .u64], [.roc 108 [.int .i64, .int .u64, .int .u64]]⟩
structure P19_0 where
  n0 : Nat
  x1 : Int
  x2 : Int
  n29 : Nat
  x30 : Int
  N0 : Nat
  O0 : Obj
  F0_0 : Nat → Int
  F0_1 : Nat → Int
  F0_2 : Nat → Int
structure S19_0 where
  x31 : Int
  R1 : th.R
noncomputable instance : Inhabited S19_0 := ⟨⟨0, dR⟩⟩
def I19_0 (p : P19_0) (s : S19_0) : St th.R := ⟨[some (.slc 0 3 0 p.n0), some (.int .u64 p.x1), some (.int .u64 p.x2), none, none, none, none, some (.ptr 1 0), none, none, none, none, none, none, none, none, none, none, none, none, none, none, none, none, none, none, none, none, none, some (.slc 0 3 0 p.n29), some (.int .i64 p.x30), some (.int .i64 s.x31), none, none, none, none, none, none, none, none, none, none, none, none, none, none, none, none, none, none, none, none, none, none, none, none, none, none, none, none, none, none, none, none, none, none, none, none, none, none, none, none, none, none, none, none, none, none, none, none, none, none, none, none, none, none, none, none, none, none, none, none, none, none, none, none, none, none, none, none, none, none, none, none, none, none, none, none, none, none, none, none, none, none, none, none, none, none, none, none, none, none, none, none, none, none, none], [.ro 108 3 p.N0 (fun j => [.int .i64 (p.F0_0 j), .int .u64 (p.F0_1 j), .int .u64 (p.F0_2 j)]) p.O0, .res s.R1], [], []⟩
def d19_0 : Lp := ⟨⟨127, [(0, .slc0 0 3), (1, .int .u64), (2, .int .u64), (7, .ptr 1 0), (29, .slc0 0 3), (30, .int .i64), (31, .int .i64)], [.roc 108 [.int .i64, .int .u64, .int .u64], .res]⟩, [], 2, [1], [0, 1, 2, 7, 76, 77, 78, 79, 80, 81, 82, 83, 84, 85, 86, 87, 88, 89, 90, 91, 92, 93, 94, 95, 96, 97, 98, 99, 100, 101, 102, 103, 108, 109, 110, 111, 112, 113, 114, 115, 116, 117, 118, 119, 122, 123, 124], []⟩
def toV19_0 (p : P19_0) (s : S19_0) : List (Vl th.R) := [.n p.n0, .i p.x1, .i p.x2, .n p.n29, .i p.x30, .i s.x31, .n p.N0, .o p.O0, .c p.F0_0, .c p.F0_1, .c p.F0_2, .r s.R1]
def ofV19_0 : List (Vl th.R) → Option (P19_0 × S19_0)
  | [.n n0, .i x1, .i x2, .n n29, .i x30, .i x31, .n N0, .o O0, .c F0_0, .c F0_1, .c F0_2, .r R1] => some (⟨n0, x1, x2, n29, x30, N0, O0, F0_0, F0_1, F0_2⟩, ⟨x31, R1⟩)
  | _ => none
noncomputable def e19_0_8 (p : P19_0) (s : S19_0) : (Nat) := (0:Nat) + s.x31.toNat
noncomputable def e19_0_9 (p : P19_0) (s : S19_0) : (Int) := p.F0_1 (e19_0_8 p s)
noncomputable def e19_0_10 (p : P19_0) (s : S19_0) : (Int) := p.F0_2 (e19_0_8 p s)
noncomputable def e19_0_0 (p : P19_0) (s : S19_0) : (Bool) := cnd (decide (s.x31 < p.x30)) false true
noncomputable def e19_0_1 (p : P19_0) (s : S19_0) : (Prop) := ∀ (i : Nat), scpL (0:Nat) ((fun (j : Nat) => [SV.int IntKind.i64 (p.F0_0 j), SV.int IntKind.u64 (p.F0_1 j), SV.int IntKind.u64 (p.F0_2 j)]) i) = true
noncomputable def e19_0_2 (p : P19_0) (s : S19_0) : (Prop) := (0 : Int) ≤ s.x31 ∧ s.x31 < (↑p.n29 : Int)
noncomputable def e19_0_3 (p : P19_0) (s : S19_0) : (Prop) := e19_0_8 p s < p.N0
noncomputable def e19_0_4 (p : P19_0) (s : S19_0) : (Prop) := ((0 : Int) ≤ e19_0_9 p s ∧ e19_0_9 p s < (18446744073709551616 : Int)) ∧ (0 : Int) ≤ e19_0_10 p s ∧ e19_0_10 p s < (18446744073709551616 : Int)
noncomputable def e19_0_5 (p : P19_0) (s : S19_0) : (Prop) := (∀ (i : Nat), scpL (0:Nat) ((fun (j : Nat) => [SV.int IntKind.i64 (p.F0_0 j), SV.int IntKind.u64 (p.F0_1 j), SV.int IntKind.u64 (p.F0_2 j)]) i) = true) ∧ ∀ (i : Nat), i < p.N0 → (fun (j : Nat) => [SV.int IntKind.i64 (p.F0_0 j), SV.int IntKind.u64 (p.F0_1 j), SV.int IntKind.u64 (p.F0_2 j)]) i = elC (fun (j : Nat) => [SV.int IntKind.i64 (p.F0_0 j), SV.int IntKind.u64 (p.F0_1 j), SV.int IntKind.u64 (p.F0_2 j)]) (0:Nat) [Ck.int IntKind.i64, Ck.int IntKind.u64, Ck.int IntKind.u64] i
noncomputable def e19_0_6 (p : P19_0) (s : S19_0) : (Int) := IntKind.i64.wrap (s.x31 + (1 : Int))
noncomputable def e19_0_7 (p : P19_0) (s : S19_0) : (Mem) := wrM s.R1 (e19_0_9 p s) (e19_0_10 p s)
theorem n_e19_0_1 (p : P19_0) (s : S19_0) : e19_0_1 p s := by
  unfold e19_0_1
  first
    | (intros; rfl)
    | (intro i; rfl)
    | (intro i _; rfl)
    | (intro _ i; rfl)
    | (intro _ i _; rfl)
    | (refine ⟨?_, ?_⟩ <;> intro i <;> rfl)
    | (refine ⟨?_, ?_, ?_⟩ <;> intro i <;> rfl)
    | (refine ⟨?_, ?_⟩ <;> intro i _ <;> rfl)
    | (repeat' apply And.intro) <;> first | (intro i; rfl) | (intro i _; rfl) | (intro i h; exact absurd h (Nat.not_lt_zero i)) | (intro i; exact scpL_rowSet (by rfl) (by rfl)) | (intro i; exact scpL_rowEl (by kernel_rfl) _)
    | (intros; (repeat' apply And.intro) <;> intros <;> first | rfl | (exact absurd (by assumption) (Nat.not_lt_zero _)))
    | omega
    | decide
theorem n_e19_0_5 (p : P19_0) (s : S19_0) : e19_0_5 p s := by
  unfold e19_0_5
  first
    | (intros; rfl)
    | (intro i; rfl)
    | (intro i _; rfl)
    | (intro _ i; rfl)
    | (intro _ i _; rfl)
    | (refine ⟨?_, ?_⟩ <;> intro i <;> rfl)
    | (refine ⟨?_, ?_, ?_⟩ <;> intro i <;> rfl)
    | (refine ⟨?_, ?_⟩ <;> intro i _ <;> rfl)
    | (repeat' apply And.intro) <;> first | (intro i; rfl) | (intro i _; rfl) | (intro i h; exact absurd h (Nat.not_lt_zero i)) | (intro i; exact scpL_rowSet (by rfl) (by rfl)) | (intro i; exact scpL_rowEl (by kernel_rfl) _)
    | (intros; (repeat' apply And.intro) <;> intros <;> first | rfl | (exact absurd (by assumption) (Nat.not_lt_zero _)))
    | omega
    | decide
noncomputable def rf19_0 (p : P19_0) (s : S19_0) : Tr (Rs th.R S19_0) := (Tr.ite (e19_0_0 p s) (Tr.need (e19_0_1 p s) (Tr.leaf (Rs.out (Ex.exit (0:Nat)) [(some (SV.slc (0:Nat) (3 : Nat) (0:Nat) (p.n0))), some (SV.int .u64 (p.x1)), some (SV.int .u64 (p.x2)), none, none, none, none, (some (SV.ptr (1 : Nat) (0:Nat))), none, none, none, none, none, none, none, none, none, none, none, none, none, none, none, none, none, none, none, none, none, none, none, none, none, none, none, none, none, none, none, none, none, none, none, none, none, none, none, none, none, none, none, none, none, none, none, none, none, none, none, none, none, none, none, none, none, none, none, none, none, none, none, none, none, none, none, none, none, none, none, none, none, none, none, none, none, none, none, none, none, none, none, none, none, none, none, none, none, none, none, none, none, none, none, none, none, none, none, none, none, none, none, none, none, none, none, none, none, none, none, none, none, none, none, none, none, none, none] [(HO.ro (108 : Nat) (3 : Nat) (p.N0) (fun j => [SV.int .i64 (p.F0_0 j), SV.int .u64 (p.F0_1 j), SV.int .u64 (p.F0_2 j)]) (p.O0)), HO.res (s.R1)]))) (Tr.need (e19_0_2 p s) (Tr.need (e19_0_3 p s) (Tr.need (e19_0_4 p s) (Tr.need (e19_0_5 p s) (Tr.leaf (Rs.on (S19_0.mk ((e19_0_6 p s)) ((e19_0_7 p s))))))))))
noncomputable def r19_0 (p : P19_0) (s : S19_0) : Tr (Rs th.R S19_0) := (Tr.ite (e19_0_0 p s) (Tr.leaf (Rs.out (Ex.exit (0:Nat)) [(some (SV.slc (0:Nat) (3 : Nat) (0:Nat) (p.n0))), some (SV.int .u64 (p.x1)), some (SV.int .u64 (p.x2)), none, none, none, none, (some (SV.ptr (1 : Nat) (0:Nat))), none, none, none, none, none, none, none, none, none, none, none, none, none, none, none, none, none, none, none, none, none, none, none, none, none, none, none, none, none, none, none, none, none, none, none, none, none, none, none, none, none, none, none, none, none, none, none, none, none, none, none, none, none, none, none, none, none, none, none, none, none, none, none, none, none, none, none, none, none, none, none, none, none, none, none, none, none, none, none, none, none, none, none, none, none, none, none, none, none, none, none, none, none, none, none, none, none, none, none, none, none, none, none, none, none, none, none, none, none, none, none, none, none, none, none, none, none, none, none] [(HO.ro (108 : Nat) (3 : Nat) (p.N0) (fun j => [SV.int .i64 (p.F0_0 j), SV.int .u64 (p.F0_1 j), SV.int .u64 (p.F0_2 j)]) (p.O0)), HO.res (s.R1)])) (Tr.need (e19_0_2 p s) (Tr.need (e19_0_3 p s) (Tr.need (e19_0_4 p s) (Tr.leaf (Rs.on (S19_0.mk ((e19_0_6 p s)) ((e19_0_7 p s)))))))))
noncomputable def E19_0 : St th.R → Out th := evCode th Try.prog (auto th Try.prog nice88 [] 20) (autoH [] [] [] [] : Hints th) (lpAt Try.prog 19 0)
theorem B19_0 : CodeSound th Try.prog (lpAt Try.prog 19 0) E19_0 := evCode_sound (T := th) (P := Try.prog) (tbl := (auto th Try.prog nice88 [] 20)) (auto_sound (nice := nice88) (us := []) nok88 20) (autoH [] [] [] [] : Hints th) _ (LoopsOk_mem (fun _ => rfl) _ fun b hb L hL => by cases hL)
noncomputable def L19_0 : St th.R → Out th := loopL d19_0 ofV19_0 r19_0
theorem h1_19_0 (p : P19_0) (s : S19_0) : bld d19_0.tm (toV19_0 p s) = some (I19_0 p s) := by kernel_rfl
theorem h2_19_0 (l : List (Vl th.R)) (p : P19_0) (s : S19_0) (h : ofV19_0 l = some (p, s)) : l = toV19_0 p s := by
  unfold ofV19_0 at h
  split at h
  · cases h; rfl
  · cases h
theorem h3_19_0 (p : P19_0) (s : S19_0) : cvE d19_0 (E19_0 (I19_0 p s)) = some ((rf19_0 p s).map (Rs.map (toV19_0 p))) := by kernel_rfl
theorem h3g_19_0 (p : P19_0) (s : S19_0) : (rf19_0 p s).get = (r19_0 p s).get := by kernel_rfl
theorem h4_19_0 (p : P19_0) (s s1 : S19_0) : outH d19_0.dirt d19_0.n0 (r19_0 p s) = repH (maskH d19_0.dirt 0 d19_0.n0 (I19_0 p s1).heap) (r19_0 p s) := by kernel_rfl
theorem ls19_0 : CodeSound th Try.prog (.loop (lpAt Try.prog 19 0)) L19_0 := loopL_sound B19_0 d19_0 I19_0 toV19_0 (by kernel_rfl) h1_19_0 h2_19_0
  (fun p s => ⟨(rf19_0 p s).map (Rs.map (toV19_0 p)), h3_19_0 p s, fun h => by
    rw [Tr.map_ok]
    unfold r19_0 at h; unfold rf19_0
    simp only [Tr.ok, n_e19_0_1, n_e19_0_5, true_and, and_true, forall_const, implies_true] at h ⊢
    try exact h, by rw [Tr.map_get, h3g_19_0 p s]⟩) h4_19_0
structure P19_1 where
  x1 : Int
  x2 : Int
  n52 : Nat
  x53 : Int
  N0 : Nat
  O0 : Obj
  F0_0 : Nat → Int
  F0_1 : Nat → Int
  F0_2 : Nat → Int
  R1 : th.R
  R2 : th.R
structure S19_1 where
  x54 : Int
noncomputable instance : Inhabited S19_1 := ⟨⟨0⟩⟩
def I19_1 (p : P19_1) (s : S19_1) : St th.R := ⟨[none, some (.int .u64 p.x1), some (.int .u64 p.x2), none, none, none, none, some (.ptr 1 0), none, none, none, some (.ptr 2 0), none, none, none, none, none, none, none, none, none, none, none, none, none, none, none, none, none, none, none, none, none, none, none, none, none, none, none, none, none, none, none, none, none, none, none, none, none, none, none, none, some (.slc 0 3 0 p.n52), some (.int .i64 p.x53), some (.int .i64 s.x54), none, none, none, none, none, none, none, none, none, none, none, none, none, none, none, none, none, none, none, none, none, none, none, none, none, none, none, none, none, none, none, none, none, none, none, none, none, none, none, none, none, none, none, none, none, none, none, none, none, none, none, none, none, none, none, none, none, none, none, none, none, none, none, none, none, none, none, none, none, none, none, none], [.ro 108 3 p.N0 (fun j => [.int .i64 (p.F0_0 j), .int .u64 (p.F0_1 j), .int .u64 (p.F0_2 j)]) p.O0, .res p.R1, .res p.R2], [], []⟩
def d19_1 : Lp := ⟨⟨127, [(1, .int .u64), (2, .int .u64), (7, .ptr 1 0), (11, .ptr 2 0), (52, .slc0 0 3), (53, .int .i64), (54, .int .i64)], [.roc 108 [.int .i64, .int .u64, .int .u64], .res, .res]⟩, [], 3, [], [6], []⟩
def toV19_1 (p : P19_1) (s : S19_1) : List (Vl th.R) := [.i p.x1, .i p.x2, .n p.n52, .i p.x53, .i s.x54, .n p.N0, .o p.O0, .c p.F0_0, .c p.F0_1, .c p.F0_2, .r p.R1, .r p.R2]
def ofV19_1 : List (Vl th.R) → Option (P19_1 × S19_1)
  | [.i x1, .i x2, .n n52, .i x53, .i x54, .n N0, .o O0, .c F0_0, .c F0_1, .c F0_2, .r R1, .r R2] => some (⟨x1, x2, n52, x53, N0, O0, F0_0, F0_1, F0_2, R1, R2⟩, ⟨x54⟩)
  | _ => none
noncomputable def e19_1_9 (p : P19_1) (s : S19_1) : (Nat) := (0:Nat) + s.x54.toNat
noncomputable def e19_1_10 (p : P19_1) (s : S19_1) : (Int) := p.F0_1 (e19_1_9 p s)
noncomputable def e19_1_11 (p : P19_1) (s : S19_1) : (Int) := errI (szM p.R2) (e19_1_10 p s)
noncomputable def e19_1_12 (p : P19_1) (s : S19_1) : (Int) := IntKind.u64.wrap (e19_1_10 p s - p.x1)
noncomputable def e19_1_13 (p : P19_1) (s : S19_1) : (Int) := rdM p.R1 (e19_1_10 p s)
noncomputable def e19_1_14 (p : P19_1) (s : S19_1) : (Bool) := rdM p.R2 (e19_1_10 p s) != e19_1_13 p s
noncomputable def e19_1_0 (p : P19_1) (s : S19_1) : (Bool) := cnd (decide (s.x54 < p.x53)) false true
noncomputable def e19_1_1 (p : P19_1) (s : S19_1) : (Prop) := ∀ (i : Nat), scpL (0:Nat) ((fun (j : Nat) => [SV.int IntKind.i64 (p.F0_0 j), SV.int IntKind.u64 (p.F0_1 j), SV.int IntKind.u64 (p.F0_2 j)]) i) = true
noncomputable def e19_1_2 (p : P19_1) (s : S19_1) : (Prop) := (0 : Int) ≤ s.x54 ∧ s.x54 < (↑p.n52 : Int)
noncomputable def e19_1_3 (p : P19_1) (s : S19_1) : (Prop) := e19_1_9 p s < p.N0
noncomputable def e19_1_4 (p : P19_1) (s : S19_1) : (Prop) := (0 : Int) ≤ e19_1_10 p s ∧ e19_1_10 p s < (18446744073709551616 : Int)
noncomputable def e19_1_5 (p : P19_1) (s : S19_1) : (Bool) := cnd (e19_1_11 p s != errI (szM p.R1) (e19_1_10 p s)) true (cnd (cnd (e19_1_11 p s == (0 : Int)) (!cnd (decide (e19_1_10 p s ≥ p.x1)) (decide (e19_1_12 p s < p.x2)) false == cnd (e19_1_13 p s == (0 : Int)) (e19_1_14 p s) false) false) (rdM p.R2 (e19_1_10 p s) != (0 : Int)) false)
noncomputable def e19_1_6 (p : P19_1) (s : S19_1) : (Bool) := cnd (cnd (e19_1_11 p s == (0 : Int)) (cnd (decide (e19_1_10 p s < p.x1)) true (decide (e19_1_12 p s ≥ p.x2))) false) (e19_1_14 p s) false
noncomputable def e19_1_7 (p : P19_1) (s : S19_1) : (Prop) := (∀ (i : Nat), scpL (0:Nat) ((fun (j : Nat) => [SV.int IntKind.i64 (p.F0_0 j), SV.int IntKind.u64 (p.F0_1 j), SV.int IntKind.u64 (p.F0_2 j)]) i) = true) ∧ ∀ (i : Nat), i < p.N0 → (fun (j : Nat) => [SV.int IntKind.i64 (p.F0_0 j), SV.int IntKind.u64 (p.F0_1 j), SV.int IntKind.u64 (p.F0_2 j)]) i = elC (fun (j : Nat) => [SV.int IntKind.i64 (p.F0_0 j), SV.int IntKind.u64 (p.F0_1 j), SV.int IntKind.u64 (p.F0_2 j)]) (0:Nat) [Ck.int IntKind.i64, Ck.int IntKind.u64, Ck.int IntKind.u64] i
noncomputable def e19_1_8 (p : P19_1) (s : S19_1) : (Int) := IntKind.i64.wrap (s.x54 + (1 : Int))
theorem n_e19_1_1 (p : P19_1) (s : S19_1) : e19_1_1 p s := by
  unfold e19_1_1
  first
    | (intros; rfl)
    | (intro i; rfl)
    | (intro i _; rfl)
    | (intro _ i; rfl)
    | (intro _ i _; rfl)
    | (refine ⟨?_, ?_⟩ <;> intro i <;> rfl)
    | (refine ⟨?_, ?_, ?_⟩ <;> intro i <;> rfl)
    | (refine ⟨?_, ?_⟩ <;> intro i _ <;> rfl)
    | (repeat' apply And.intro) <;> first | (intro i; rfl) | (intro i _; rfl) | (intro i h; exact absurd h (Nat.not_lt_zero i)) | (intro i; exact scpL_rowSet (by rfl) (by rfl)) | (intro i; exact scpL_rowEl (by kernel_rfl) _)
    | (intros; (repeat' apply And.intro) <;> intros <;> first | rfl | (exact absurd (by assumption) (Nat.not_lt_zero _)))
    | omega
    | decide
theorem n_e19_1_7 (p : P19_1) (s : S19_1) : e19_1_7 p s := by
  unfold e19_1_7
  first
    | (intros; rfl)
    | (intro i; rfl)
    | (intro i _; rfl)
    | (intro _ i; rfl)
    | (intro _ i _; rfl)
    | (refine ⟨?_, ?_⟩ <;> intro i <;> rfl)
    | (refine ⟨?_, ?_, ?_⟩ <;> intro i <;> rfl)
    | (refine ⟨?_, ?_⟩ <;> intro i _ <;> rfl)
    | (repeat' apply And.intro) <;> first | (intro i; rfl) | (intro i _; rfl) | (intro i h; exact absurd h (Nat.not_lt_zero i)) | (intro i; exact scpL_rowSet (by rfl) (by rfl)) | (intro i; exact scpL_rowEl (by kernel_rfl) _)
    | (intros; (repeat' apply And.intro) <;> intros <;> first | rfl | (exact absurd (by assumption) (Nat.not_lt_zero _)))
    | omega
    | decide
noncomputable def rf19_1 (p : P19_1) (s : S19_1) : Tr (Rs th.R S19_1) := (Tr.ite (e19_1_0 p s) (Tr.need (e19_1_1 p s) (Tr.leaf (Rs.out (Ex.exit (2 : Nat)) [none, none, none, none, none, none, none, none, none, none, none, none, none, none, none, none, none, none, none, none, none, none, none, none, none, none, none, none, none, none, none, none, none, none, none, none, none, none, none, none, none, none, none, none, none, none, none, none, none, none, none, none, none, none, none, none, none, none, none, none, none, none, none, none, none, none, none, none, none, none, none, none, none, none, none, none, none, none, none, none, none, none, none, none, none, none, none, none, none, none, none, none, none, none, none, none, none, none, none, none, none, none, none, none, none, none, none, none, none, none, none, none, none, none, none, none, none, none, none, none, none, none, none, none, none, none, none] [(HO.ro (108 : Nat) (3 : Nat) (p.N0) (fun j => [SV.int .i64 (p.F0_0 j), SV.int .u64 (p.F0_1 j), SV.int .u64 (p.F0_2 j)]) (p.O0)), HO.res (p.R1), HO.res (p.R2)]))) (Tr.need (e19_1_2 p s) (Tr.need (e19_1_3 p s) (Tr.need (e19_1_4 p s) (Tr.need (e19_1_4 p s) (Tr.ite (e19_1_5 p s) (Tr.need (e19_1_1 p s) (Tr.leaf (Rs.out (Ex.ret) [none, none, none, none, none, none, some (SV.bool (false)), none, none, none, none, none, none, none, none, none, none, none, none, none, none, none, none, none, none, none, none, none, none, none, none, none, none, none, none, none, none, none, none, none, none, none, none, none, none, none, none, none, none, none, none, none, none, none, none, none, none, none, none, none, none, none, none, none, none, none, none, none, none, none, none, none, none, none, none, none, none, none, none, none, none, none, none, none, none, none, none, none, none, none, none, none, none, none, none, none, none, none, none, none, none, none, none, none, none, none, none, none, none, none, none, none, none, none, none, none, none, none, none, none, none, none, none, none, none, none, none] [(HO.ro (108 : Nat) (3 : Nat) (p.N0) (fun j => [SV.int .i64 (p.F0_0 j), SV.int .u64 (p.F0_1 j), SV.int .u64 (p.F0_2 j)]) (p.O0)), HO.res (p.R1), HO.res (p.R2)]))) (Tr.ite (e19_1_6 p s) (Tr.need (e19_1_1 p s) (Tr.leaf (Rs.out (Ex.ret) [none, none, none, none, none, none, some (SV.bool (false)), none, none, none, none, none, none, none, none, none, none, none, none, none, none, none, none, none, none, none, none, none, none, none, none, none, none, none, none, none, none, none, none, none, none, none, none, none, none, none, none, none, none, none, none, none, none, none, none, none, none, none, none, none, none, none, none, none, none, none, none, none, none, none, none, none, none, none, none, none, none, none, none, none, none, none, none, none, none, none, none, none, none, none, none, none, none, none, none, none, none, none, none, none, none, none, none, none, none, none, none, none, none, none, none, none, none, none, none, none, none, none, none, none, none, none, none, none, none, none, none] [(HO.ro (108 : Nat) (3 : Nat) (p.N0) (fun j => [SV.int .i64 (p.F0_0 j), SV.int .u64 (p.F0_1 j), SV.int .u64 (p.F0_2 j)]) (p.O0)), HO.res (p.R1), HO.res (p.R2)]))) (Tr.need (e19_1_7 p s) (Tr.leaf (Rs.on (S19_1.mk ((e19_1_8 p s)))))))))))))
noncomputable def r19_1 (p : P19_1) (s : S19_1) : Tr (Rs th.R S19_1) := (Tr.ite (e19_1_0 p s) (Tr.leaf (Rs.out (Ex.exit (2 : Nat)) [none, none, none, none, none, none, none, none, none, none, none, none, none, none, none, none, none, none, none, none, none, none, none, none, none, none, none, none, none, none, none, none, none, none, none, none, none, none, none, none, none, none, none, none, none, none, none, none, none, none, none, none, none, none, none, none, none, none, none, none, none, none, none, none, none, none, none, none, none, none, none, none, none, none, none, none, none, none, none, none, none, none, none, none, none, none, none, none, none, none, none, none, none, none, none, none, none, none, none, none, none, none, none, none, none, none, none, none, none, none, none, none, none, none, none, none, none, none, none, none, none, none, none, none, none, none, none] [(HO.ro (108 : Nat) (3 : Nat) (p.N0) (fun j => [SV.int .i64 (p.F0_0 j), SV.int .u64 (p.F0_1 j), SV.int .u64 (p.F0_2 j)]) (p.O0)), HO.res (p.R1), HO.res (p.R2)])) (Tr.need (e19_1_2 p s) (Tr.need (e19_1_3 p s) (Tr.need (e19_1_4 p s) (Tr.need (e19_1_4 p s) (Tr.ite (e19_1_5 p s) (Tr.leaf (Rs.out (Ex.ret) [none, none, none, none, none, none, some (SV.bool (false)), none, none, none, none, none, none, none, none, none, none, none, none, none, none, none, none, none, none, none, none, none, none, none, none, none, none, none, none, none, none, none, none, none, none, none, none, none, none, none, none, none, none, none, none, none, none, none, none, none, none, none, none, none, none, none, none, none, none, none, none, none, none, none, none, none, none, none, none, none, none, none, none, none, none, none, none, none, none, none, none, none, none, none, none, none, none, none, none, none, none, none, none, none, none, none, none, none, none, none, none, none, none, none, none, none, none, none, none, none, none, none, none, none, none, none, none, none, none, none, none] [(HO.ro (108 : Nat) (3 : Nat) (p.N0) (fun j => [SV.int .i64 (p.F0_0 j), SV.int .u64 (p.F0_1 j), SV.int .u64 (p.F0_2 j)]) (p.O0)), HO.res (p.R1), HO.res (p.R2)])) (Tr.ite (e19_1_6 p s) (Tr.leaf (Rs.out (Ex.ret) [none, none, none, none, none, none, some (SV.bool (false)), none, none, none, none, none, none, none, none, none, none, none, none, none, none, none, none, none, none, none, none, none, none, none, none, none, none, none, none, none, none, none, none, none, none, none, none, none, none, none, none, none, none, none, none, none, none, none, none, none, none, none, none, none, none, none, none, none, none, none, none, none, none, none, none, none, none, none, none, none, none, none, none, none, none, none, none, none, none, none, none, none, none, none, none, none, none, none, none, none, none, none, none, none, none, none, none, none, none, none, none, none, none, none, none, none, none, none, none, none, none, none, none, none, none, none, none, none, none, none, none] [(HO.ro (108 : Nat) (3 : Nat) (p.N0) (fun j => [SV.int .i64 (p.F0_0 j), SV.int .u64 (p.F0_1 j), SV.int .u64 (p.F0_2 j)]) (p.O0)), HO.res (p.R1), HO.res (p.R2)])) (Tr.leaf (Rs.on (S19_1.mk ((e19_1_8 p s))))))))))))
noncomputable def E19_1 : St th.R → Out th := evCode th Try.prog (auto th Try.prog nice88 [] 20) (autoH [] [] [] [] : Hints th) (lpAt Try.prog 19 1)
theorem B19_1 : CodeSound th Try.prog (lpAt Try.prog 19 1) E19_1 := evCode_sound (T := th) (P := Try.prog) (tbl := (auto th Try.prog nice88 [] 20)) (auto_sound (nice := nice88) (us := []) nok88 20) (autoH [] [] [] [] : Hints th) _ (LoopsOk_mem (fun _ => rfl) _ fun b hb L hL => by cases hL)
noncomputable def L19_1 : St th.R → Out th := loopL d19_1 ofV19_1 r19_1
theorem h1_19_1 (p : P19_1) (s : S19_1) : bld d19_1.tm (toV19_1 p s) = some (I19_1 p s) := by kernel_rfl
theorem h2_19_1 (l : List (Vl th.R)) (p : P19_1) (s : S19_1) (h : ofV19_1 l = some (p, s)) : l = toV19_1 p s := by
  unfold ofV19_1 at h
  split at h
  · cases h; rfl
  · cases h
theorem h3_19_1 (p : P19_1) (s : S19_1) : cvE d19_1 (E19_1 (I19_1 p s)) = some ((rf19_1 p s).map (Rs.map (toV19_1 p))) := by kernel_rfl
theorem h3g_19_1 (p : P19_1) (s : S19_1) : (rf19_1 p s).get = (r19_1 p s).get := by kernel_rfl
theorem h4_19_1 (p : P19_1) (s s1 : S19_1) : outH d19_1.dirt d19_1.n0 (r19_1 p s) = repH (maskH d19_1.dirt 0 d19_1.n0 (I19_1 p s1).heap) (r19_1 p s) := by kernel_rfl
theorem ls19_1 : CodeSound th Try.prog (.loop (lpAt Try.prog 19 1)) L19_1 := loopL_sound B19_1 d19_1 I19_1 toV19_1 (by kernel_rfl) h1_19_1 h2_19_1
  (fun p s => ⟨(rf19_1 p s).map (Rs.map (toV19_1 p)), h3_19_1 p s, fun h => by
    rw [Tr.map_ok]
    unfold r19_1 at h; unfold rf19_1
    simp only [Tr.ok, n_e19_1_1, n_e19_1_7, true_and, and_true, forall_const, implies_true] at h ⊢
    try exact h, by rw [Tr.map_get, h3g_19_1 p s]⟩) h4_19_1
theorem ok19 : LoopsOk th Try.prog (autoH [(9, L19_0), (17, L19_1)] [] [] [] : Hints th) (bodyOf Try.prog 19) := autoH_ok (bs := [lpAt Try.prog 19 0, lpAt Try.prog 19 1]) (by kernel_rfl) fun b hb L hL => by
  simp only [List.mem_cons, List.not_mem_nil, or_false] at hb
  rcases hb with rfl | rfl
  · have e : lookL [(9, L19_0), (17, L19_1)] (firstReg (lpAt Try.prog 19 0)) = some L19_0 := by kernel_rfl
    rw [e] at hL; cases hL
    exact ls19_0
  · have e : lookL [(9, L19_0), (17, L19_1)] (firstReg (lpAt Try.prog 19 1)) = some L19_1 := by kernel_rfl
    rw [e] at hL; cases hL
    exact ls19_1
noncomputable def f19_7 (v : V19) : (Bool) := decide ((↑v.L : Int) > (60 : Int))
noncomputable def f19z0 (v : V19) : S19_0 := lastS (r19_0 (P19_0.mk v.L v.at_ v.n v.L (↑v.L : Int) v.Q v.ob_ v.ok v.oa v.ow)) (S19_0.mk (0 : Int) (newM (1048576 : Int)))
noncomputable def f19_8 (v : V19) : (th.R) := (f19z0 v).R1
noncomputable def f19_9 (v : V19) : (Bool) := errC (szM (f19_8 v)) v.at_ v.n != (0 : Int)
noncomputable def f19_10 (v : V19) : (Mem) := clM (f19_8 v) v.at_ v.n
noncomputable def f19_11 (v : V19) : (P19_1) := P19_1.mk v.at_ v.n v.L (↑v.L : Int) v.Q v.ob_ v.ok v.oa v.ow (f19_10 v) (f19_8 v)
noncomputable def f19_12 (v : V19) : (S19_1) := lastS (r19_1 (f19_11 v)) (S19_1.mk (0 : Int))
noncomputable def f19_0 (v : V19) : (Prop) := false = false → f19_7 v = false → false = false → ∀ (i : Nat), i < v.Q → (fun (j : Nat) => [SV.int IntKind.i64 (v.ok j), SV.int IntKind.u64 (v.oa j), SV.int IntKind.u64 (v.ow j)]) i = elC (fun (j : Nat) => [SV.int IntKind.i64 (v.ok j), SV.int IntKind.u64 (v.oa j), SV.int IntKind.u64 (v.ow j)]) (0:Nat) [Ck.int IntKind.i64, Ck.int IntKind.u64, Ck.int IntKind.u64] i
noncomputable def f19_1 (v : V19) : (Prop) := false = false → f19_7 v = false → false = false → LT (r19_0 (P19_0.mk v.L v.at_ v.n v.L (↑v.L : Int) v.Q v.ob_ v.ok v.oa v.ow)) (S19_0.mk (0 : Int) (newM (1048576 : Int)))
noncomputable def f19_2 (v : V19) : (Prop) := false = false → f19_7 v = false → false = false → ((0 : Int) ≤ v.at_ ∧ v.at_ < (18446744073709551616 : Int)) ∧ (0 : Int) ≤ v.n ∧ v.n < (18446744073709551616 : Int)
noncomputable def f19_3 (v : V19) : (Prop) := false = false → f19_7 v = false → false = false → f19_9 v = true → pre79 (V79.mk (f19_10 v) (f19_8 v))
noncomputable def f19_4 (v : V19) : (Prop) := false = false → f19_7 v = false → false = false → f19_9 v = false → ∀ (i : Nat), i < v.Q → (fun (j : Nat) => [SV.int IntKind.i64 (v.ok j), SV.int IntKind.u64 (v.oa j), SV.int IntKind.u64 (v.ow j)]) i = elC (fun (j : Nat) => [SV.int IntKind.i64 (v.ok j), SV.int IntKind.u64 (v.oa j), SV.int IntKind.u64 (v.ow j)]) (0:Nat) [Ck.int IntKind.i64, Ck.int IntKind.u64, Ck.int IntKind.u64] i
noncomputable def f19_5 (v : V19) : (Prop) := false = false → f19_7 v = false → false = false → f19_9 v = false → LT (r19_1 (f19_11 v)) (S19_1.mk (0 : Int))
noncomputable def f19_6 (v : V19) : (Bool) := cnd (f19_7 v) true (cnd (f19_9 v) (sameM (f19_10 v) (f19_8 v)) (cnd (cnd (e19_1_0 (f19_11 v) (f19_12 v)) false (e19_1_5 (f19_11 v) (f19_12 v))) false (cnd (cnd (e19_1_0 (f19_11 v) (f19_12 v)) false true) false true)))
theorem n_f19_0 (v : V19) : f19_0 v := by
  unfold f19_0
  first
    | (intros; rfl)
    | (intro i; rfl)
    | (intro i _; rfl)
    | (intro _ i; rfl)
    | (intro _ i _; rfl)
    | (refine ⟨?_, ?_⟩ <;> intro i <;> rfl)
    | (refine ⟨?_, ?_, ?_⟩ <;> intro i <;> rfl)
    | (refine ⟨?_, ?_⟩ <;> intro i _ <;> rfl)
    | (repeat' apply And.intro) <;> first | (intro i; rfl) | (intro i _; rfl) | (intro i h; exact absurd h (Nat.not_lt_zero i)) | (intro i; exact scpL_rowSet (by rfl) (by rfl)) | (intro i; exact scpL_rowEl (by kernel_rfl) _)
    | (intros; (repeat' apply And.intro) <;> intros <;> first | rfl | (exact absurd (by assumption) (Nat.not_lt_zero _)))
    | omega
    | decide
theorem n_f19_4 (v : V19) : f19_4 v := by
  unfold f19_4
  first
    | (intros; rfl)
    | (intro i; rfl)
    | (intro i _; rfl)
    | (intro _ i; rfl)
    | (intro _ i _; rfl)
    | (refine ⟨?_, ?_⟩ <;> intro i <;> rfl)
    | (refine ⟨?_, ?_, ?_⟩ <;> intro i <;> rfl)
    | (refine ⟨?_, ?_⟩ <;> intro i _ <;> rfl)
    | (repeat' apply And.intro) <;> first | (intro i; rfl) | (intro i _; rfl) | (intro i h; exact absurd h (Nat.not_lt_zero i)) | (intro i; exact scpL_rowSet (by rfl) (by rfl)) | (intro i; exact scpL_rowEl (by kernel_rfl) _)
    | (intros; (repeat' apply And.intro) <;> intros <;> first | rfl | (exact absurd (by assumption) (Nat.not_lt_zero _)))
    | omega
    | decide
noncomputable def ff19 (v : V19) : Tr (Fin th.R) := (Tr.need (f19_0 v) (Tr.need (f19_1 v) (Tr.need (f19_2 v) (Tr.need (f19_3 v) (Tr.need (f19_4 v) (Tr.need (f19_5 v) (Tr.leaf (SV.bool (f19_6 v), [(HO.ro (108 : Nat) (3 : Nat) (v.Q) (fun j => [SV.int .i64 (v.ok j), SV.int .u64 (v.oa j), SV.int .u64 (v.ow j)]) (v.ob_))], List.nil))))))))
noncomputable def f19 (v : V19) : Tr (Fin th.R) := (Tr.need (f19_1 v) (Tr.need (f19_2 v) (Tr.need (f19_3 v) (Tr.need (f19_5 v) (Tr.leaf (SV.bool (f19_6 v), [(HO.ro (108 : Nat) (3 : Nat) (v.Q) (fun j => [SV.int .i64 (v.ok j), SV.int .u64 (v.oa j), SV.int .u64 (v.ow j)]) (v.ob_))], []))))))
noncomputable def C19 : CF th.R := fnC d19 ofV19 (f19 )
theorem q19 (v : V19) : (evFn th Try.prog (auto th Try.prog nice88 [] 20) (autoH [(9, L19_0), (17, L19_1)] [] [] [] : Hints th) 19) (A19 v) (H19 v) = some (ff19 v) := by kernel_rfl
theorem qg19 (v : V19) : ((ff19 v).map (setD [])).get = (f19 v).get := by kernel_rfl
theorem qd19 (v : V19) : allD 1 [] (ff19 v) = true := by kernel_rfl
theorem s19 : Sound Try.prog th 19 (C19 ) := fnC_sound (evFn_sound' (T := th) (P := Try.prog) (tbl := (auto th Try.prog nice88 [] 20)) (auto_sound (nice := nice88) (us := []) nok88 20) (H := (autoH [(9, L19_0), (17, L19_1)] [] [] [] : Hints th)) (k := 19) (fnLoops ok19)) d19 A19 H19 toV19 (by kernel_rfl) (fun v => by kernel_rfl)
  (fun l v h => by
    unfold ofV19 at h
    split at h
    · cases h; rfl
    · cases h)
  [] (fun v => ⟨ff19 v, q19 v, fun h => by
    unfold f19 at h; unfold ff19
    simp only [Tr.ok, n_f19_0, n_f19_4, true_and, and_true, forall_const, implies_true] at h ⊢
    try exact h, qg19 v, qd19 v⟩)
theorem qdd19 (v : V19) : (f19 v).get.2.2 = [] := by
  rw [← qg19, Tr.map_get]; rfl
end Go.Sx.M

namespace Go.Sx.M
open Go Go.Sx Go.Proofs Go.RowKit
set_option maxRecDepth 100000
theorem same_self (M : Mem) : sameM M M = true := by
  unfold sameM
  have e1 : (M.size != M.size) = false := bne_self_eq_false _
  have e2 : decide (pgs M = pgs M) = true := decide_eq_true rfl
  rw [e1, e2]
  show ((pgs M).all fun a => allK (wof M.W (a / 4096)) (wof M.W (a / 4096)) 512 0) = true
  exact List.all_eq_true.2 fun a _ => allK_iff.2 fun _ _ _ => rfl
theorem mem_pgs_of {M : Mem} {a : Int} (hz : M.size % 4096 = 0) (h0 : 0 ≤ a) (h8 : a % 8 = 0) (hlt : a < M.size) (hw : M.W a ≠ 0) : a / 4096 * 4096 ∈ pgs M := by
  unfold pgs pgN
  refine List.mem_map.2 ⟨(a / 4096).toNat, List.mem_filter.2 ⟨List.mem_range.2 ?_, decide_eq_true (cntW_pos.2 ⟨((a % 4096) / 8).toNat, by omega, ?_⟩)⟩, by omega⟩
  · unfold pagN; omega
  · have e : (((a / 4096).toNat : Nat) : Int) * 4096 + 8 * ((((a % 4096) / 8).toNat : Nat) : Int) = a := by omega
    rw [e]; exact hw
theorem pgs_sorted (M : Mem) : (pgs M).Pairwise (· < ·) := by
  unfold pgs pgN
  rw [List.pairwise_map]
  exact ((range_lt _).filter _).imp fun h => by omega
theorem pgA_mem {M : Mem} {j : Nat} (h : j < pgL M) : pgA M j ∈ pgs M := by
  unfold pgL at h
  have : pgA M j = (pgs M)[j] := by simp [pgA, List.getD, h]
  rw [this]; exact List.getElem_mem h
theorem pgA_lt {M : Mem} {i j : Nat} (hij : i < j) (hj : j < pgL M) : pgA M i < pgA M j := by
  unfold pgL at hj
  have e1 : pgA M i = (pgs M)[i]'(by omega) := by simp [pgA, List.getD, show i < (pgs M).length by omega]
  have e2 : pgA M j = (pgs M)[j] := by simp [pgA, List.getD, hj]
  rw [e1, e2]
  exact List.pairwise_iff_getElem.1 (pgs_sorted M) i j (by omega) hj hij
theorem mem_pgA {M : Mem} {a : Int} (h : a ∈ pgs M) : ∃ j, j < pgL M ∧ pgA M j = a := by
  obtain ⟨j, hj, rfl⟩ := List.mem_iff_getElem.1 h
  exact ⟨j, hj, by simp [pgA, List.getD, hj]⟩
theorem pgs_dom {M : Mem} (hM : MemOk M) {a : Int} (h : a ∈ pgs M) : 0 ≤ a ∧ a % 4096 = 0 ∧ a + 4096 ≤ M.size := by
  unfold pgs pgN at h
  obtain ⟨p, hp, rfl⟩ := List.mem_map.1 h
  have h1 := List.mem_range.1 (List.mem_filter.1 hp).1
  have := hM.al
  unfold pagN at h1
  omega
theorem pgs_all {M : Mem} (hM : MemOk M) {a : Int} (h : M.W a ≠ 0) : a / 4096 * 4096 ∈ pgs M := by
  obtain ⟨h0, h1, h8⟩ := hM.dom a h
  exact mem_pgs_of hM.al h0 h8 h1 h
theorem wr_W (M : Mem) (a x : Int) : (wrM M a x).W = cnd (decide (errI M.size a = 0)) (upd M.W a x) M.W := rfl
theorem wr_ok {M : Mem} {a x : Int} (hM : MemOk M) (h0 : 0 ≤ a) (hx : U64 x) : MemOk (wrM M a x) := by
  by_cases he : errI M.size a = 0
  · obtain ⟨h8, hlt⟩ := errI_bad he
    have hw : (wrM M a x).W = upd M.W a x := by rw [wr_W, decide_eq_true he]; rfl
    refine ⟨hM.lo, hM.hi, hM.al, fun b hb => ?_, fun b => ?_⟩
    · rw [hw] at hb
      by_cases e : b = a
      · subst e; exact ⟨h0, hlt, h8⟩
      · rw [upd_other e] at hb; exact hM.dom b hb
    · rw [hw]
      by_cases e : b = a
      · subst e; rw [upd_same]; exact hx
      · rw [upd_other e]; exact hM.rng b
  · have hw : (wrM M a x).W = M.W := by rw [wr_W, decide_eq_false he]; rfl
    exact ⟨hM.lo, hM.hi, hM.al, fun b hb => hM.dom b (by rw [← hw]; exact hb), fun b => by rw [hw]; exact hM.rng b⟩
theorem wr_sup {M : Mem} {a x b : Int} (h : (wrM M a x).W b ≠ 0) : b = a ∨ M.W b ≠ 0 := by
  by_cases e : b = a
  · exact .inl e
  · right
    rw [wr_W] at h
    by_cases he : errI M.size a = 0
    · rw [decide_eq_true he] at h
      have h : upd M.W a x b ≠ 0 := h
      rwa [upd_other e] at h
    · rw [decide_eq_false he] at h; exact h
theorem ok_newM : MemOk (newM 1048576) := ok_new ⟨by decide, by decide, by decide⟩
end Go.Sx.M

namespace Go.Sx.M
open Go Go.Sx Go.Proofs Go.RowKit
set_option maxRecDepth 100000
theorem l19_0 {p : P19_0} {L : Nat} (h30 : p.n29 = L) (h31 : p.x30 = L) (hN : p.N0 = L) (hL : L ≤ 60) (hu : ∀ j, j < L → U64 (p.F0_1 j) ∧ U64 (p.F0_2 j)) {s : S19_0} (hs : s.x31 = 0) (hM : MemOk s.R1) (h0 : ∀ b, s.R1.W b = 0) :
    LT (r19_0 p) s ∧ MemOk (lastS (r19_0 p) s).R1 ∧ ∀ b, (lastS (r19_0 p) s).R1.W b ≠ 0 → ∃ j, j < L ∧ p.F0_1 j = b := by
  refine LT.post (fun t : S19_0 => ∃ i : Nat, t.x31 = i ∧ i ≤ L ∧ MemOk t.R1 ∧ ∀ b, t.R1.W b ≠ 0 → ∃ j, j < i ∧ p.F0_1 j = b)
    (fun t : S19_0 => MemOk t.R1 ∧ ∀ b, t.R1.W b ≠ 0 → ∃ j, j < L ∧ p.F0_1 j = b) (fun t : S19_0 => L - t.x31.toNat) ?_ ⟨0, hs, Nat.zero_le _, hM, fun b hb => absurd (h0 b) hb⟩
  rintro ⟨x31, R⟩ ⟨i, g1, g2, g3, g4⟩
  simp only at g1 g3 g4
  subst g1
  by_cases hi : i < L
  · have hd : e19_0_0 p ⟨i, R⟩ = false := by
      show cnd (decide ((i : Int) < p.x30)) false true = false
      rw [decide_eq_true (by omega)]; rfl
    have e8 : e19_0_8 p ⟨i, R⟩ = i := by show 0 + (i : Int).toNat = i; omega
    have u := hu i hi
    have e9 : e19_0_9 p ⟨i, R⟩ = p.F0_1 i := by unfold e19_0_9; rw [e8]
    have e10 : e19_0_10 p ⟨i, R⟩ = p.F0_2 i := by unfold e19_0_10; rw [e8]
    have w6 : IntKind.i64.wrap ((i : Int) + 1) = ((i + 1 : Nat) : Int) := by rw [wrap_i64 (by omega) (by omega)]; omega
    have e7 : e19_0_7 p ⟨i, R⟩ = wrM R (p.F0_1 i) (p.F0_2 i) := by unfold e19_0_7; rw [e9, e10]
    simp only [r19_0, hd, Tr.ok, Tr.get]
    refine ⟨⟨(fun e => by cases e), fun _ => ⟨⟨by show (0 : Int) ≤ i; omega, by show (i : Int) < p.n29; omega⟩, by unfold e19_0_3; rw [e8, hN]; exact hi, by unfold e19_0_4; rw [e9, e10]; exact u, trivial⟩⟩,
      .inr ⟨_, rfl, ⟨i + 1, w6, hi, ?_, fun b hb => ?_⟩, ?_⟩⟩
    · show MemOk (e19_0_7 p ⟨i, R⟩)
      rw [e7]; exact wr_ok g3 u.1.1 u.2
    · have hb : (e19_0_7 p ⟨i, R⟩).W b ≠ 0 := hb
      rw [e7] at hb
      rcases wr_sup hb with e | h
      · exact ⟨i, by omega, e.symm⟩
      · obtain ⟨j, hj, e⟩ := g4 b h
        exact ⟨j, by omega, e⟩
    · show L - (IntKind.i64.wrap ((i : Int) + 1)).toNat < L - (i : Int).toNat
      rw [w6]; omega
  · have hd : e19_0_0 p ⟨i, R⟩ = true := by
      show cnd (decide ((i : Int) < p.x30)) false true = true
      rw [decide_eq_false (by omega)]; rfl
    have hiL : i = L := by omega
    subst hiL
    simp only [r19_0, hd, Tr.ok, Tr.get]
    exact ⟨⟨fun _ => trivial, (fun e => by cases e)⟩, .inl ⟨⟨_, _, _, rfl⟩, g3, g4⟩⟩
theorem cl_in {M : Mem} {a n x : Int} (he : errC M.size a n = 0) (h : a ≤ x ∧ x < a + n) : (clM M a n).W x = 0 := by
  show cnd _ _ _ = _
  rw [decide_eq_true ⟨he, h⟩]; rfl
theorem cl_out {M : Mem} {a n x : Int} (h : ¬ (a ≤ x ∧ x < a + n)) : (clM M a n).W x = M.W x := by
  show cnd _ _ _ = _
  rw [decide_eq_false fun e => h e.2]; rfl
theorem l19_1 {p : P19_1} {L : Nat} {M : Mem} {a n : Int} (ha : U64 a) (hn : U64 n) (he : errC M.size a n = 0) (h1 : p.x1 = a) (h2 : p.x2 = n) (hR1 : p.R1 = clM M a n) (hR2 : p.R2 = M) (h50 : p.n52 = L) (h51 : p.x53 = L) (hN : p.N0 = L) (hL : L ≤ 60) (hu : ∀ j, j < L → U64 (p.F0_1 j)) {s : S19_1} (hs : s.x54 = 0) :
    LT (r19_1 p) s ∧ e19_1_0 p (lastS (r19_1 p) s) = true := by
  refine LT.post (fun t : S19_1 => ∃ i : Nat, t.x54 = i ∧ i ≤ L) (fun t : S19_1 => e19_1_0 p t = true) (fun t : S19_1 => L - t.x54.toNat) ?_ ⟨0, hs, Nat.zero_le _⟩
  rintro ⟨x54⟩ ⟨i, g1, g2⟩
  simp only at g1
  subst g1
  by_cases hi : i < L
  · have hd : e19_1_0 p ⟨i⟩ = false := by
      show cnd (decide ((i : Int) < p.x53)) false true = false
      rw [decide_eq_true (by omega)]; rfl
    have e9 : e19_1_9 p ⟨i⟩ = i := by show 0 + (i : Int).toNat = i; omega
    have u := hu i hi
    have e10 : e19_1_10 p ⟨i⟩ = p.F0_1 i := by unfold e19_1_10; rw [e9]
    have w8 : IntKind.i64.wrap ((i : Int) + 1) = ((i + 1 : Nat) : Int) := by rw [wrap_i64 (by omega) (by omega)]; omega
    generalize p.F0_1 i = x at u e10
    have e13 : e19_1_13 p ⟨i⟩ = (clM M a n).W x := by unfold e19_1_13; rw [e10, hR1]; rfl
    have r2 : rdM p.R2 x = M.W x := by rw [hR2]; rfl
    have e14 : e19_1_14 p ⟨i⟩ = (M.W x != (clM M a n).W x) := by unfold e19_1_14; rw [e10, e13, r2]
    have e11 : e19_1_11 p ⟨i⟩ = errI M.size x := by unfold e19_1_11; rw [e10, hR2]; rfl
    have e11' : errI (szM p.R1) (e19_1_10 p ⟨i⟩) = errI M.size x := by rw [e10, hR1]; rfl
    have e12 : x ≥ a → e19_1_12 p ⟨i⟩ = x - a := fun hx => by
      unfold e19_1_12; rw [e10, h1]
      have := u.2
      have := ha.1
      exact wrap_u64_id (by omega) (by omega)
    have hin : cnd (decide (e19_1_10 p ⟨i⟩ ≥ p.x1)) (decide (e19_1_12 p ⟨i⟩ < p.x2)) false = decide (a ≤ x ∧ x < a + n) := by
      rw [e10, h1, h2]
      by_cases hx : x ≥ a
      · rw [e12 hx, decide_eq_true hx]
        show decide (x - a < n) = _
        exact decide_eq_decide.2 (by omega)
      · rw [decide_eq_false hx, decide_eq_false (show ¬ (a ≤ x ∧ x < a + n) from fun e => hx e.1)]
        cases decide (e19_1_12 p ⟨i⟩ < n) <;> cases decide (e19_1_12 p ⟨i⟩ ≥ n) <;> rfl
    have hout : cnd (decide (e19_1_10 p ⟨i⟩ < p.x1)) true (decide (e19_1_12 p ⟨i⟩ ≥ p.x2)) = !decide (a ≤ x ∧ x < a + n) := by
      rw [e10, h1, h2]
      by_cases hx : x ≥ a
      · rw [e12 hx, decide_eq_false (show ¬ x < a by omega)]
        show decide (x - a ≥ n) = _
        rw [← decide_not]
        exact decide_eq_decide.2 (by omega)
      · rw [decide_eq_true (show x < a by omega), decide_eq_false (show ¬ (a ≤ x ∧ x < a + n) from fun e => hx e.1)]
        cases decide (e19_1_12 p ⟨i⟩ < n) <;> cases decide (e19_1_12 p ⟨i⟩ ≥ n) <;> rfl
    have e5 : e19_1_5 p ⟨i⟩ = false := by
      unfold e19_1_5
      rw [e11', e11, hin, e13, e14, e10, r2]
      rw [show (errI M.size x != errI M.size x) = false from bne_self_eq_false _]
      show cnd (cnd (errI M.size x == 0) _ false) (M.W x != 0) false = false
      by_cases hm : M.W x = 0
      · rw [show (M.W x != 0) = false by rw [hm]; rfl]
        cases cnd (errI M.size x == 0) (!decide (a ≤ x ∧ x < a + n) == cnd ((clM M a n).W x == 0) (M.W x != (clM M a n).W x) false) false <;> rfl
      · have hx : decide (a ≤ x ∧ x < a + n) = cnd ((clM M a n).W x == 0) (M.W x != (clM M a n).W x) false := by
          by_cases hc : a ≤ x ∧ x < a + n
          · rw [decide_eq_true hc, cl_in he hc, show (M.W x != 0) = true from bne_iff_ne.2 hm]; rfl
          · rw [decide_eq_false hc, cl_out hc, show (M.W x == 0) = false from beq_eq_false_iff_ne.2 hm]; rfl
        rw [← hx]
        cases decide (a ≤ x ∧ x < a + n) <;> cases errI M.size x == 0 <;> rfl
    have e6 : e19_1_6 p ⟨i⟩ = false := by
      unfold e19_1_6
      rw [hout, e14]
      by_cases hc : a ≤ x ∧ x < a + n
      · rw [decide_eq_true hc]
        cases e19_1_11 p ⟨i⟩ == 0 <;> rfl
      · rw [cl_out hc, show (M.W x != M.W x) = false from bne_self_eq_false _]
        cases cnd (e19_1_11 p ⟨i⟩ == 0) (!decide (a ≤ x ∧ x < a + n)) false <;> rfl
    have nd4 : e19_1_4 p ⟨i⟩ := by unfold e19_1_4; rw [e10]; exact u
    simp only [r19_1, hd, e5, e6, Tr.ok, Tr.get]
    refine ⟨⟨(fun e => by cases e), fun _ => ⟨⟨by show (0 : Int) ≤ i; omega, by show (i : Int) < p.n52; omega⟩, by unfold e19_1_3; rw [e9, hN]; exact hi, nd4, nd4, (fun e => by cases e), fun _ => ⟨(fun e => by cases e), fun _ => trivial⟩⟩⟩,
      .inr ⟨_, rfl, ⟨i + 1, w8, hi⟩, ?_⟩⟩
    show L - (IntKind.i64.wrap ((i : Int) + 1)).toNat < L - (i : Int).toNat
    rw [w8]; omega
  · have hd : e19_1_0 p ⟨i⟩ = true := by
      show cnd (decide ((i : Int) < p.x53)) false true = true
      rw [decide_eq_false (by omega)]; rfl
    refine ⟨?_, .inl ⟨?_, hd⟩⟩
    · simp only [r19_1, hd, Tr.ok]
      exact ⟨fun _ => trivial, (fun e => by cases e)⟩
    · simp only [r19_1, hd, Tr.get]
      exact ⟨_, _, _, rfl⟩
theorem law19_true (v : V19) (hQ : v.Q = v.L) (hu : ∀ j, j < v.L → U64 (v.oa j) ∧ U64 (v.ow j)) (ha : U64 v.at_) (hn : U64 v.n) : (f19 v).ok ∧ f19_6 v = true := by
  by_cases h60 : v.L ≤ 60
  · have h7 : f19_7 v = false := by unfold f19_7; exact decide_eq_false (by omega)
    obtain ⟨m1, m2, m3⟩ := l19_0 (p := P19_0.mk v.L v.at_ v.n v.L (v.L : Int) v.Q v.ob_ v.ok v.oa v.ow) (L := v.L) rfl rfl hQ (by omega) hu (s := S19_0.mk 0 (newM 1048576)) rfl ok_newM (fun _ => rfl)
    by_cases he : errC (szM (f19_8 v)) v.at_ v.n = 0
    · have h9 : f19_9 v = false := by unfold f19_9; rw [he]; rfl
      obtain ⟨k1, k2⟩ := l19_1 (p := f19_11 v) (L := v.L) (M := f19_8 v) ha hn he rfl rfl rfl rfl rfl rfl hQ h60 (fun j hj => (hu j hj).1) (s := S19_1.mk 0) rfl
      refine ⟨⟨fun _ _ _ => m1, fun _ _ _ => ⟨ha, hn⟩, fun _ _ _ _ => trivial, fun _ _ _ _ => k1, trivial⟩, ?_⟩
      have k2 : e19_1_0 (f19_11 v) (f19_12 v) = true := k2
      unfold f19_6
      rw [h7, h9, k2]; rfl
    · have h9 : f19_9 v = true := by unfold f19_9; exact bne_iff_ne.2 he
      refine ⟨⟨fun _ _ _ => m1, fun _ _ _ => ⟨ha, hn⟩, fun _ _ _ _ => trivial, (fun _ _ _ e => by rw [h9] at e; cases e), trivial⟩, ?_⟩
      have : f19_10 v = (f19_8 v : Mem) := clM_bad he
      unfold f19_6
      rw [h7, h9]
      exact (congrArg (fun z : Mem => sameM z (f19_8 v)) this).trans (same_self _)
  · have h7 : f19_7 v = true := by unfold f19_7; exact decide_eq_true (by omega)
    have n1 : ∀ {p : Prop}, f19_7 v = false → p := fun e => by rw [h7] at e; cases e
    refine ⟨⟨fun _ e => n1 e, fun _ e => n1 e, fun _ e => n1 e, fun _ e => n1 e, trivial⟩, ?_⟩
    unfold f19_6
    rw [h7]; rfl
end Go.Sx.M

namespace Go.Sx.M
open Go Go.Sx Go.Proofs Go.RowKit
set_option maxRecDepth 100000
def pre19 (v : V19) : Prop := v.Q = v.L ∧ (∀ j, j < v.L → U64 (v.oa j) ∧ U64 (v.ow j)) ∧ U64 v.at_ ∧ U64 v.n
theorem n19 (v : V19) (h : pre19 v) : (f19 v).ok ∧ (f19 v).get.1 = .bool true ∧ HOws (f19 v).get.2.1 [HO.ro 108 3 v.Q (fun j => [.int .i64 (v.ok j), .int .u64 (v.oa j), .int .u64 (v.ow j)]) v.ob_] := by
  obtain ⟨k1, k2⟩ := law19_true v h.1 h.2.1 h.2.2.1 h.2.2.2
  exact ⟨k1, congrArg SV.bool k2, .refl _⟩
noncomputable def f19n (v : V19) : Tr (Fin th.R) := .need (pre19 v) (.leaf (.bool true, [.ro 108 3 v.Q (fun j => [.int .i64 (v.ok j), .int .u64 (v.oa j), .int .u64 (v.ow j)]) v.ob_], []))
theorem s19n : Sound Try.prog th 19 (fnC d19 ofV19 f19n) := fnC_refine s19 fun v h => by
  obtain ⟨hp, _⟩ := h
  obtain ⟨a, b, c⟩ := n19 v hp
  exact ⟨a, b.symm, (qdd19 v).symm, c, by show 1 ≤ 1; decide⟩
theorem claw19 (v : V19) : fnC d19 ofV19 f19n (A19 v) (H19 v) = some (.need (∀ i, i < v.Q → (fun j => [.int .i64 (v.ok j), .int .u64 (v.oa j), .int .u64 (v.ow j)] : Nat → List SV) i = elC (fun j => [.int .i64 (v.ok j), .int .u64 (v.oa j), .int .u64 (v.ow j)] : Nat → List SV) 0 [.int .i64, .int .u64, .int .u64] i) ((f19n v).map (fixF (H19 v)))) := by kernel_rfl
noncomputable def nice19n : List (Nat × CF th.R) := (19, lift (fnC d19 ofV19 f19n)) :: nice88
theorem nok19n : NiceOk Try.prog th nice19n := ⟨lift_sound s19n, nok88⟩
end Go.Sx.M

