/- Contracts of the functions of this seat, each by the executor and the kernel; part 4. Their conditions stand in each. -/
import Derived.Test.YtoldganbhlgboaaC3
set_option linter.unusedVariables false
set_option linter.unusedSimpArgs false
namespace Go.Sx.M
open Go Go.Sx Go.Proofs Go.RowKit
set_option maxRecDepth 100000
structure V13 where
  L : Nat
  fr : Int
  w : Int
  Q : Nat
  ob_ : Obj
  ok : Nat → Int
  oa : Nat → Int
  ow : Nat → Int
def A13 (v : V13) : List SV := [.slc 0 3 0 v.L, .int .u64 v.fr, .int .u64 v.w]
def H13 (v : V13) : List (HO th.R) := [.ro 108 3 v.Q (fun j => [.int .i64 (v.ok j), .int .u64 (v.oa j), .int .u64 (v.ow j)]) v.ob_]
def toV13 (v : V13) : List (Vl th.R) := [.n v.L, .i v.fr, .i v.w, .n v.Q, .o v.ob_, .c v.ok, .c v.oa, .c v.ow]
def ofV13 : List (Vl th.R) → Option V13
  | [.n L, .i fr, .i w, .n Q, .o ob_, .c ok, .c oa, .c ow] => some ⟨L, fr, w, Q, ob_, ok, oa, ow⟩
  | _ => none
def d13 : Ft := ⟨[.slc0 0 3, .int .u64, .int .u64], [.roc 108 [.int .i64, .int .u64, .int .u64]]⟩
structure P13_0 where
  n0 : Nat
  x1 : Int
  x2 : Int
  n30 : Nat
  x31 : Int
  N0 : Nat
  O0 : Obj
  F0_0 : Nat → Int
  F0_1 : Nat → Int
  F0_2 : Nat → Int
structure S13_0 where
  x32 : Int
  R1 : th.R
noncomputable instance : Inhabited S13_0 := ⟨⟨0, dR⟩⟩
def I13_0 (p : P13_0) (s : S13_0) : St th.R := ⟨[some (.slc 0 3 0 p.n0), some (.int .u64 p.x1), some (.int .u64 p.x2), none, none, none, none, some (.ptr 1 0), none, none, none, none, none, none, none, none, none, none, none, none, none, none, none, none, none, none, none, none, none, none, some (.slc 0 3 0 p.n30), some (.int .i64 p.x31), some (.int .i64 s.x32), none, none, none, none, none, none, none, none, none, none, none, none, none, none, none, none, none, none, none, none, none, none, none, none, none, none, none, none, none, none, none, none, none, none, none, none, none, none, none, none, none, none, none, none, none, none, none, none, none, none, none, none, none, none, none, none, none, none, none, none, none, none, none, none, none, none, none, none], [.ro 108 3 p.N0 (fun j => [.int .i64 (p.F0_0 j), .int .u64 (p.F0_1 j), .int .u64 (p.F0_2 j)]) p.O0, .res s.R1], [], []⟩
def d13_0 : Lp := ⟨⟨101, [(0, .slc0 0 3), (1, .int .u64), (2, .int .u64), (7, .ptr 1 0), (30, .slc0 0 3), (31, .int .i64), (32, .int .i64)], [.roc 108 [.int .i64, .int .u64, .int .u64], .res]⟩, [], 2, [1], [0, 1, 2, 7, 66, 67, 68, 71, 72, 75, 76, 77, 78, 81, 82, 83, 84, 85, 86, 87, 88, 97, 98, 99], []⟩
def toV13_0 (p : P13_0) (s : S13_0) : List (Vl th.R) := [.n p.n0, .i p.x1, .i p.x2, .n p.n30, .i p.x31, .i s.x32, .n p.N0, .o p.O0, .c p.F0_0, .c p.F0_1, .c p.F0_2, .r s.R1]
def ofV13_0 : List (Vl th.R) → Option (P13_0 × S13_0)
  | [.n n0, .i x1, .i x2, .n n30, .i x31, .i x32, .n N0, .o O0, .c F0_0, .c F0_1, .c F0_2, .r R1] => some (⟨n0, x1, x2, n30, x31, N0, O0, F0_0, F0_1, F0_2⟩, ⟨x32, R1⟩)
  | _ => none
noncomputable def e13_0_8 (p : P13_0) (s : S13_0) : (Nat) := (0:Nat) + s.x32.toNat
noncomputable def e13_0_9 (p : P13_0) (s : S13_0) : (Int) := p.F0_1 (e13_0_8 p s)
noncomputable def e13_0_10 (p : P13_0) (s : S13_0) : (Int) := p.F0_2 (e13_0_8 p s)
noncomputable def e13_0_0 (p : P13_0) (s : S13_0) : (Bool) := cnd (decide (s.x32 < p.x31)) false true
noncomputable def e13_0_1 (p : P13_0) (s : S13_0) : (Prop) := ∀ (i : Nat), scpL (0:Nat) ((fun (j : Nat) => [SV.int IntKind.i64 (p.F0_0 j), SV.int IntKind.u64 (p.F0_1 j), SV.int IntKind.u64 (p.F0_2 j)]) i) = true
noncomputable def e13_0_2 (p : P13_0) (s : S13_0) : (Prop) := (0 : Int) ≤ s.x32 ∧ s.x32 < (↑p.n30 : Int)
noncomputable def e13_0_3 (p : P13_0) (s : S13_0) : (Prop) := e13_0_8 p s < p.N0
noncomputable def e13_0_4 (p : P13_0) (s : S13_0) : (Prop) := ((0 : Int) ≤ e13_0_9 p s ∧ e13_0_9 p s < (18446744073709551616 : Int)) ∧ (0 : Int) ≤ e13_0_10 p s ∧ e13_0_10 p s < (18446744073709551616 : Int)
noncomputable def e13_0_5 (p : P13_0) (s : S13_0) : (Prop) := (∀ (i : Nat), scpL (0:Nat) ((fun (j : Nat) => [SV.int IntKind.i64 (p.F0_0 j), SV.int IntKind.u64 (p.F0_1 j), SV.int IntKind.u64 (p.F0_2 j)]) i) = true) ∧ ∀ (i : Nat), i < p.N0 → (fun (j : Nat) => [SV.int IntKind.i64 (p.F0_0 j), SV.int IntKind.u64 (p.F0_1 j), SV.int IntKind.u64 (p.F0_2 j)]) i = elC (fun (j : Nat) => [SV.int IntKind.i64 (p.F0_0 j), SV.int IntKind.u64 (p.F0_1 j), SV.int IntKind.u64 (p.F0_2 j)]) (0:Nat) [Ck.int IntKind.i64, Ck.int IntKind.u64, Ck.int IntKind.u64] i
noncomputable def e13_0_6 (p : P13_0) (s : S13_0) : (Int) := IntKind.i64.wrap (s.x32 + (1 : Int))
noncomputable def e13_0_7 (p : P13_0) (s : S13_0) : (Mem) := wrM s.R1 (e13_0_9 p s) (e13_0_10 p s)
theorem n_e13_0_1 (p : P13_0) (s : S13_0) : e13_0_1 p s := by
  unfold e13_0_1
  first
    | (intros; rfl)
    | (intro i; rfl)
    | (intro i _; rfl)
    | (intro _ i; rfl)
    | (intro _ i _; rfl)
    | (refine ⟨?_, ?_⟩ <;> intro i <;> rfl)
    | (refine ⟨?_, ?_, ?_⟩ <;> intro i <;> rfl)
    | (refine ⟨?_, ?_⟩ <;> intro i _ <;> rfl)
    | (repeat' apply And.intro) <;> first | (intro i; rfl) | (intro i _; rfl) | (intro i h; exact absurd h (Nat.not_lt_zero i)) | (intro i; exact scpL_rowSet (by rfl) (by rfl)) | (intro i; exact scpL_rowEl (by kernel_rfl) _)
    | (intros; (repeat' apply And.intro) <;> intros <;> first | rfl | (exact absurd (by assumption) (Nat.not_lt_zero _)))
    | omega
    | decide
theorem n_e13_0_5 (p : P13_0) (s : S13_0) : e13_0_5 p s := by
  unfold e13_0_5
  first
    | (intros; rfl)
    | (intro i; rfl)
    | (intro i _; rfl)
    | (intro _ i; rfl)
    | (intro _ i _; rfl)
    | (refine ⟨?_, ?_⟩ <;> intro i <;> rfl)
    | (refine ⟨?_, ?_, ?_⟩ <;> intro i <;> rfl)
    | (refine ⟨?_, ?_⟩ <;> intro i _ <;> rfl)
    | (repeat' apply And.intro) <;> first | (intro i; rfl) | (intro i _; rfl) | (intro i h; exact absurd h (Nat.not_lt_zero i)) | (intro i; exact scpL_rowSet (by rfl) (by rfl)) | (intro i; exact scpL_rowEl (by kernel_rfl) _)
    | (intros; (repeat' apply And.intro) <;> intros <;> first | rfl | (exact absurd (by assumption) (Nat.not_lt_zero _)))
    | omega
    | decide
noncomputable def rf13_0 (p : P13_0) (s : S13_0) : Tr (Rs th.R S13_0) := (Tr.ite (e13_0_0 p s) (Tr.need (e13_0_1 p s) (Tr.leaf (Rs.out (Ex.exit (0:Nat)) [(some (SV.slc (0:Nat) (3 : Nat) (0:Nat) (p.n0))), some (SV.int .u64 (p.x1)), some (SV.int .u64 (p.x2)), none, none, none, none, (some (SV.ptr (1 : Nat) (0:Nat))), none, none, none, none, none, none, none, none, none, none, none, none, none, none, none, none, none, none, none, none, none, none, none, none, none, none, none, none, none, none, none, none, none, none, none, none, none, none, none, none, none, none, none, none, none, none, none, none, none, none, none, none, none, none, none, none, none, none, none, none, none, none, none, none, none, none, none, none, none, none, none, none, none, none, none, none, none, none, none, none, none, none, none, none, none, none, none, none, none, none, none, none, none] [(HO.ro (108 : Nat) (3 : Nat) (p.N0) (fun j => [SV.int .i64 (p.F0_0 j), SV.int .u64 (p.F0_1 j), SV.int .u64 (p.F0_2 j)]) (p.O0)), HO.res (s.R1)]))) (Tr.need (e13_0_2 p s) (Tr.need (e13_0_3 p s) (Tr.need (e13_0_4 p s) (Tr.need (e13_0_5 p s) (Tr.leaf (Rs.on (S13_0.mk ((e13_0_6 p s)) ((e13_0_7 p s))))))))))
noncomputable def r13_0 (p : P13_0) (s : S13_0) : Tr (Rs th.R S13_0) := (Tr.ite (e13_0_0 p s) (Tr.leaf (Rs.out (Ex.exit (0:Nat)) [(some (SV.slc (0:Nat) (3 : Nat) (0:Nat) (p.n0))), some (SV.int .u64 (p.x1)), some (SV.int .u64 (p.x2)), none, none, none, none, (some (SV.ptr (1 : Nat) (0:Nat))), none, none, none, none, none, none, none, none, none, none, none, none, none, none, none, none, none, none, none, none, none, none, none, none, none, none, none, none, none, none, none, none, none, none, none, none, none, none, none, none, none, none, none, none, none, none, none, none, none, none, none, none, none, none, none, none, none, none, none, none, none, none, none, none, none, none, none, none, none, none, none, none, none, none, none, none, none, none, none, none, none, none, none, none, none, none, none, none, none, none, none, none, none] [(HO.ro (108 : Nat) (3 : Nat) (p.N0) (fun j => [SV.int .i64 (p.F0_0 j), SV.int .u64 (p.F0_1 j), SV.int .u64 (p.F0_2 j)]) (p.O0)), HO.res (s.R1)])) (Tr.need (e13_0_2 p s) (Tr.need (e13_0_3 p s) (Tr.need (e13_0_4 p s) (Tr.leaf (Rs.on (S13_0.mk ((e13_0_6 p s)) ((e13_0_7 p s)))))))))
noncomputable def E13_0 : St th.R → Out th := evCode th Try.prog (auto th Try.prog nice73n [] 20) (autoH [] [] [] [] : Hints th) (lpAt Try.prog 13 0)
theorem B13_0 : CodeSound th Try.prog (lpAt Try.prog 13 0) E13_0 := evCode_sound (T := th) (P := Try.prog) (tbl := (auto th Try.prog nice73n [] 20)) (auto_sound (nice := nice73n) (us := []) nok73n 20) (autoH [] [] [] [] : Hints th) _ (LoopsOk_mem (fun _ => rfl) _ fun b hb L hL => by cases hL)
noncomputable def L13_0 : St th.R → Out th := loopL d13_0 ofV13_0 r13_0
theorem h1_13_0 (p : P13_0) (s : S13_0) : bld d13_0.tm (toV13_0 p s) = some (I13_0 p s) := by kernel_rfl
theorem h2_13_0 (l : List (Vl th.R)) (p : P13_0) (s : S13_0) (h : ofV13_0 l = some (p, s)) : l = toV13_0 p s := by
  unfold ofV13_0 at h
  split at h
  · cases h; rfl
  · cases h
theorem h3_13_0 (p : P13_0) (s : S13_0) : cvE d13_0 (E13_0 (I13_0 p s)) = some ((rf13_0 p s).map (Rs.map (toV13_0 p))) := by kernel_rfl
theorem h3g_13_0 (p : P13_0) (s : S13_0) : (rf13_0 p s).get = (r13_0 p s).get := by kernel_rfl
theorem h4_13_0 (p : P13_0) (s s1 : S13_0) : outH d13_0.dirt d13_0.n0 (r13_0 p s) = repH (maskH d13_0.dirt 0 d13_0.n0 (I13_0 p s1).heap) (r13_0 p s) := by kernel_rfl
theorem ls13_0 : CodeSound th Try.prog (.loop (lpAt Try.prog 13 0)) L13_0 := loopL_sound B13_0 d13_0 I13_0 toV13_0 (by kernel_rfl) h1_13_0 h2_13_0
  (fun p s => ⟨(rf13_0 p s).map (Rs.map (toV13_0 p)), h3_13_0 p s, fun h => by
    rw [Tr.map_ok]
    unfold r13_0 at h; unfold rf13_0
    simp only [Tr.ok, n_e13_0_1, n_e13_0_5, true_and, and_true, forall_const, implies_true] at h ⊢
    try exact h, by rw [Tr.map_get, h3g_13_0 p s]⟩) h4_13_0
structure P13_1 where
  x1 : Int
  x2 : Int
  x11 : Int
  b12 : Bool
  n50 : Nat
  x51 : Int
  N0 : Nat
  O0 : Obj
  F0_0 : Nat → Int
  F0_1 : Nat → Int
  F0_2 : Nat → Int
  R1 : th.R
structure S13_1 where
  x13 : Int
  b14 : Bool
  x52 : Int
noncomputable instance : Inhabited S13_1 := ⟨⟨0, false, 0⟩⟩
def I13_1 (p : P13_1) (s : S13_1) : St th.R := ⟨[none, some (.int .u64 p.x1), some (.int .u64 p.x2), none, none, none, none, some (.ptr 1 0), none, none, none, some (.int .u64 p.x11), some (.bool p.b12), some (.int .u64 s.x13), some (.bool s.b14), none, none, none, none, none, none, none, none, none, none, none, none, none, none, none, none, none, none, none, none, none, none, none, none, none, none, none, none, none, none, none, none, none, none, none, some (.slc 0 3 0 p.n50), some (.int .i64 p.x51), some (.int .i64 s.x52), none, none, none, none, none, none, none, none, none, none, none, none, none, none, none, none, none, none, none, none, none, none, none, none, none, none, none, none, none, none, none, none, none, none, none, none, none, none, none, none, none, none, none, none, none, none, none, none], [.ro 108 3 p.N0 (fun j => [.int .i64 (p.F0_0 j), .int .u64 (p.F0_1 j), .int .u64 (p.F0_2 j)]) p.O0, .res p.R1], [], []⟩
def d13_1 : Lp := ⟨⟨101, [(1, .int .u64), (2, .int .u64), (7, .ptr 1 0), (11, .int .u64), (12, .bool), (13, .int .u64), (14, .bool), (50, .slc0 0 3), (51, .int .i64), (52, .int .i64)], [.roc 108 [.int .i64, .int .u64, .int .u64], .res]⟩, [], 2, [], [11, 12, 13, 14, 97, 98, 99], []⟩
def toV13_1 (p : P13_1) (s : S13_1) : List (Vl th.R) := [.i p.x1, .i p.x2, .i p.x11, .b p.b12, .i s.x13, .b s.b14, .n p.n50, .i p.x51, .i s.x52, .n p.N0, .o p.O0, .c p.F0_0, .c p.F0_1, .c p.F0_2, .r p.R1]
def ofV13_1 : List (Vl th.R) → Option (P13_1 × S13_1)
  | [.i x1, .i x2, .i x11, .b b12, .i x13, .b b14, .n n50, .i x51, .i x52, .n N0, .o O0, .c F0_0, .c F0_1, .c F0_2, .r R1] => some (⟨x1, x2, x11, b12, n50, x51, N0, O0, F0_0, F0_1, F0_2, R1⟩, ⟨x13, b14, x52⟩)
  | _ => none
noncomputable def e13_1_9 (p : P13_1) (s : S13_1) : (Nat) := (0:Nat) + s.x52.toNat
noncomputable def e13_1_10 (p : P13_1) (s : S13_1) : (Int) := p.F0_1 (e13_1_9 p s)
noncomputable def e13_1_11 (p : P13_1) (s : S13_1) : (Bool) := cnd (cnd (cnd (cnd (errI (szM p.R1) (e13_1_10 p s) == (0 : Int)) (rdM p.R1 (e13_1_10 p s) == p.x2) false) (p.x2 != (0 : Int)) false) (decide (e13_1_10 p s ≥ p.x1)) false) (cnd (!s.b14) true (decide (e13_1_10 p s < s.x13))) false
noncomputable def e13_1_0 (p : P13_1) (s : S13_1) : (Bool) := cnd (decide (s.x52 < p.x51)) false true
noncomputable def e13_1_1 (p : P13_1) (s : S13_1) : (Prop) := ∀ (i : Nat), scpL (0:Nat) ((fun (j : Nat) => [SV.int IntKind.i64 (p.F0_0 j), SV.int IntKind.u64 (p.F0_1 j), SV.int IntKind.u64 (p.F0_2 j)]) i) = true
noncomputable def e13_1_2 (p : P13_1) (s : S13_1) : (Prop) := (0 : Int) ≤ s.x52 ∧ s.x52 < (↑p.n50 : Int)
noncomputable def e13_1_3 (p : P13_1) (s : S13_1) : (Prop) := e13_1_9 p s < p.N0
noncomputable def e13_1_4 (p : P13_1) (s : S13_1) : (Prop) := (0 : Int) ≤ e13_1_10 p s ∧ e13_1_10 p s < (18446744073709551616 : Int)
noncomputable def e13_1_5 (p : P13_1) (s : S13_1) : (Prop) := (∀ (i : Nat), scpL (0:Nat) ((fun (j : Nat) => [SV.int IntKind.i64 (p.F0_0 j), SV.int IntKind.u64 (p.F0_1 j), SV.int IntKind.u64 (p.F0_2 j)]) i) = true) ∧ ∀ (i : Nat), i < p.N0 → (fun (j : Nat) => [SV.int IntKind.i64 (p.F0_0 j), SV.int IntKind.u64 (p.F0_1 j), SV.int IntKind.u64 (p.F0_2 j)]) i = elC (fun (j : Nat) => [SV.int IntKind.i64 (p.F0_0 j), SV.int IntKind.u64 (p.F0_1 j), SV.int IntKind.u64 (p.F0_2 j)]) (0:Nat) [Ck.int IntKind.i64, Ck.int IntKind.u64, Ck.int IntKind.u64] i
noncomputable def e13_1_6 (p : P13_1) (s : S13_1) : (Int) := cnd (e13_1_11 p s) (e13_1_10 p s) s.x13
noncomputable def e13_1_7 (p : P13_1) (s : S13_1) : (Bool) := cnd (e13_1_11 p s) true s.b14
noncomputable def e13_1_8 (p : P13_1) (s : S13_1) : (Int) := IntKind.i64.wrap (s.x52 + (1 : Int))
theorem n_e13_1_1 (p : P13_1) (s : S13_1) : e13_1_1 p s := by
  unfold e13_1_1
  first
    | (intros; rfl)
    | (intro i; rfl)
    | (intro i _; rfl)
    | (intro _ i; rfl)
    | (intro _ i _; rfl)
    | (refine ⟨?_, ?_⟩ <;> intro i <;> rfl)
    | (refine ⟨?_, ?_, ?_⟩ <;> intro i <;> rfl)
    | (refine ⟨?_, ?_⟩ <;> intro i _ <;> rfl)
    | (repeat' apply And.intro) <;> first | (intro i; rfl) | (intro i _; rfl) | (intro i h; exact absurd h (Nat.not_lt_zero i)) | (intro i; exact scpL_rowSet (by rfl) (by rfl)) | (intro i; exact scpL_rowEl (by kernel_rfl) _)
    | (intros; (repeat' apply And.intro) <;> intros <;> first | rfl | (exact absurd (by assumption) (Nat.not_lt_zero _)))
    | omega
    | decide
theorem n_e13_1_5 (p : P13_1) (s : S13_1) : e13_1_5 p s := by
  unfold e13_1_5
  first
    | (intros; rfl)
    | (intro i; rfl)
    | (intro i _; rfl)
    | (intro _ i; rfl)
    | (intro _ i _; rfl)
    | (refine ⟨?_, ?_⟩ <;> intro i <;> rfl)
    | (refine ⟨?_, ?_, ?_⟩ <;> intro i <;> rfl)
    | (refine ⟨?_, ?_⟩ <;> intro i _ <;> rfl)
    | (repeat' apply And.intro) <;> first | (intro i; rfl) | (intro i _; rfl) | (intro i h; exact absurd h (Nat.not_lt_zero i)) | (intro i; exact scpL_rowSet (by rfl) (by rfl)) | (intro i; exact scpL_rowEl (by kernel_rfl) _)
    | (intros; (repeat' apply And.intro) <;> intros <;> first | rfl | (exact absurd (by assumption) (Nat.not_lt_zero _)))
    | omega
    | decide
noncomputable def rf13_1 (p : P13_1) (s : S13_1) : Tr (Rs th.R S13_1) := (Tr.ite (e13_1_0 p s) (Tr.need (e13_1_1 p s) (Tr.leaf (Rs.out (Ex.exit (2 : Nat)) [none, none, none, none, none, none, none, none, none, none, none, some (SV.int .u64 (p.x11)), some (SV.bool (p.b12)), some (SV.int .u64 (s.x13)), some (SV.bool (s.b14)), none, none, none, none, none, none, none, none, none, none, none, none, none, none, none, none, none, none, none, none, none, none, none, none, none, none, none, none, none, none, none, none, none, none, none, none, none, none, none, none, none, none, none, none, none, none, none, none, none, none, none, none, none, none, none, none, none, none, none, none, none, none, none, none, none, none, none, none, none, none, none, none, none, none, none, none, none, none, none, none, none, none, none, none, none, none] [(HO.ro (108 : Nat) (3 : Nat) (p.N0) (fun j => [SV.int .i64 (p.F0_0 j), SV.int .u64 (p.F0_1 j), SV.int .u64 (p.F0_2 j)]) (p.O0)), HO.res (p.R1)]))) (Tr.need (e13_1_2 p s) (Tr.need (e13_1_3 p s) (Tr.need (e13_1_4 p s) (Tr.need (e13_1_5 p s) (Tr.leaf (Rs.on (S13_1.mk ((e13_1_6 p s)) ((e13_1_7 p s)) ((e13_1_8 p s))))))))))
noncomputable def r13_1 (p : P13_1) (s : S13_1) : Tr (Rs th.R S13_1) := (Tr.ite (e13_1_0 p s) (Tr.leaf (Rs.out (Ex.exit (2 : Nat)) [none, none, none, none, none, none, none, none, none, none, none, some (SV.int .u64 (p.x11)), some (SV.bool (p.b12)), some (SV.int .u64 (s.x13)), some (SV.bool (s.b14)), none, none, none, none, none, none, none, none, none, none, none, none, none, none, none, none, none, none, none, none, none, none, none, none, none, none, none, none, none, none, none, none, none, none, none, none, none, none, none, none, none, none, none, none, none, none, none, none, none, none, none, none, none, none, none, none, none, none, none, none, none, none, none, none, none, none, none, none, none, none, none, none, none, none, none, none, none, none, none, none, none, none, none, none, none, none] [(HO.ro (108 : Nat) (3 : Nat) (p.N0) (fun j => [SV.int .i64 (p.F0_0 j), SV.int .u64 (p.F0_1 j), SV.int .u64 (p.F0_2 j)]) (p.O0)), HO.res (p.R1)])) (Tr.need (e13_1_2 p s) (Tr.need (e13_1_3 p s) (Tr.need (e13_1_4 p s) (Tr.leaf (Rs.on (S13_1.mk ((e13_1_6 p s)) ((e13_1_7 p s)) ((e13_1_8 p s)))))))))
noncomputable def E13_1 : St th.R → Out th := evCode th Try.prog (auto th Try.prog nice73n [] 20) (autoH [] [] [] [] : Hints th) (lpAt Try.prog 13 1)
theorem B13_1 : CodeSound th Try.prog (lpAt Try.prog 13 1) E13_1 := evCode_sound (T := th) (P := Try.prog) (tbl := (auto th Try.prog nice73n [] 20)) (auto_sound (nice := nice73n) (us := []) nok73n 20) (autoH [] [] [] [] : Hints th) _ (LoopsOk_mem (fun _ => rfl) _ fun b hb L hL => by cases hL)
noncomputable def L13_1 : St th.R → Out th := loopL d13_1 ofV13_1 r13_1
theorem h1_13_1 (p : P13_1) (s : S13_1) : bld d13_1.tm (toV13_1 p s) = some (I13_1 p s) := by kernel_rfl
theorem h2_13_1 (l : List (Vl th.R)) (p : P13_1) (s : S13_1) (h : ofV13_1 l = some (p, s)) : l = toV13_1 p s := by
  unfold ofV13_1 at h
  split at h
  · cases h; rfl
  · cases h
theorem h3_13_1 (p : P13_1) (s : S13_1) : cvE d13_1 (E13_1 (I13_1 p s)) = some ((rf13_1 p s).map (Rs.map (toV13_1 p))) := by kernel_rfl
theorem h3g_13_1 (p : P13_1) (s : S13_1) : (rf13_1 p s).get = (r13_1 p s).get := by kernel_rfl
theorem h4_13_1 (p : P13_1) (s s1 : S13_1) : outH d13_1.dirt d13_1.n0 (r13_1 p s) = repH (maskH d13_1.dirt 0 d13_1.n0 (I13_1 p s1).heap) (r13_1 p s) := by kernel_rfl
theorem ls13_1 : CodeSound th Try.prog (.loop (lpAt Try.prog 13 1)) L13_1 := loopL_sound B13_1 d13_1 I13_1 toV13_1 (by kernel_rfl) h1_13_1 h2_13_1
  (fun p s => ⟨(rf13_1 p s).map (Rs.map (toV13_1 p)), h3_13_1 p s, fun h => by
    rw [Tr.map_ok]
    unfold r13_1 at h; unfold rf13_1
    simp only [Tr.ok, n_e13_1_1, n_e13_1_5, true_and, and_true, forall_const, implies_true] at h ⊢
    try exact h, by rw [Tr.map_get, h3g_13_1 p s]⟩) h4_13_1
theorem ok13 : LoopsOk th Try.prog (autoH [(9, L13_0), (16, L13_1)] [] [] [] : Hints th) (bodyOf Try.prog 13) := autoH_ok (bs := [lpAt Try.prog 13 0, lpAt Try.prog 13 1]) (by kernel_rfl) fun b hb L hL => by
  simp only [List.mem_cons, List.not_mem_nil, or_false] at hb
  rcases hb with rfl | rfl
  · have e : lookL [(9, L13_0), (16, L13_1)] (firstReg (lpAt Try.prog 13 0)) = some L13_0 := by kernel_rfl
    rw [e] at hL; cases hL
    exact ls13_0
  · have e : lookL [(9, L13_0), (16, L13_1)] (firstReg (lpAt Try.prog 13 1)) = some L13_1 := by kernel_rfl
    rw [e] at hL; cases hL
    exact ls13_1
noncomputable def f13_5 (v : V13) : (Bool) := decide ((↑v.L : Int) > (40 : Int))
noncomputable def f13z0 (v : V13) : S13_0 := lastS (r13_0 (P13_0.mk v.L v.fr v.w v.L (↑v.L : Int) v.Q v.ob_ v.ok v.oa v.ow)) (S13_0.mk (0 : Int) (newM (1048576 : Int)))
noncomputable def f13_6 (v : V13) : (th.R) := (f13z0 v).R1
noncomputable def f13_7 (v : V13) : (Int) := fdA (f13_6 v) v.fr v.w
noncomputable def f13_8 (v : V13) : (Bool) := fdB (f13_6 v) v.fr v.w
noncomputable def f13_9 (v : V13) : (S13_1) := lastS (r13_1 (P13_1.mk v.fr v.w (f13_7 v) (f13_8 v) v.L (↑v.L : Int) v.Q v.ob_ v.ok v.oa v.ow (f13_6 v))) (S13_1.mk (0 : Int) false (0 : Int))
noncomputable def f13_0 (v : V13) : (Prop) := false = false → f13_5 v = false → false = false → ∀ (i : Nat), i < v.Q → (fun (j : Nat) => [SV.int IntKind.i64 (v.ok j), SV.int IntKind.u64 (v.oa j), SV.int IntKind.u64 (v.ow j)]) i = elC (fun (j : Nat) => [SV.int IntKind.i64 (v.ok j), SV.int IntKind.u64 (v.oa j), SV.int IntKind.u64 (v.ow j)]) (0:Nat) [Ck.int IntKind.i64, Ck.int IntKind.u64, Ck.int IntKind.u64] i
noncomputable def f13_1 (v : V13) : (Prop) := false = false → f13_5 v = false → false = false → LT (r13_0 (P13_0.mk v.L v.fr v.w v.L (↑v.L : Int) v.Q v.ob_ v.ok v.oa v.ow)) (S13_0.mk (0 : Int) (newM (1048576 : Int)))
noncomputable def f13_2 (v : V13) : (Prop) := false = false → f13_5 v = false → false = false → pre73 (V73.mk v.fr v.w (f13_6 v))
noncomputable def f13_3 (v : V13) : (Prop) := false = false → f13_5 v = false → false = false → LT (r13_1 (P13_1.mk v.fr v.w (f13_7 v) (f13_8 v) v.L (↑v.L : Int) v.Q v.ob_ v.ok v.oa v.ow (f13_6 v))) (S13_1.mk (0 : Int) false (0 : Int))
noncomputable def f13_4 (v : V13) : (Bool) := cnd (f13_5 v) true (cnd (f13_8 v == (f13_9 v).b14) (f13_7 v == (f13_9 v).x13) false)
theorem n_f13_0 (v : V13) : f13_0 v := by
  unfold f13_0
  first
    | (intros; rfl)
    | (intro i; rfl)
    | (intro i _; rfl)
    | (intro _ i; rfl)
    | (intro _ i _; rfl)
    | (refine ⟨?_, ?_⟩ <;> intro i <;> rfl)
    | (refine ⟨?_, ?_, ?_⟩ <;> intro i <;> rfl)
    | (refine ⟨?_, ?_⟩ <;> intro i _ <;> rfl)
    | (repeat' apply And.intro) <;> first | (intro i; rfl) | (intro i _; rfl) | (intro i h; exact absurd h (Nat.not_lt_zero i)) | (intro i; exact scpL_rowSet (by rfl) (by rfl)) | (intro i; exact scpL_rowEl (by kernel_rfl) _)
    | (intros; (repeat' apply And.intro) <;> intros <;> first | rfl | (exact absurd (by assumption) (Nat.not_lt_zero _)))
    | omega
    | decide
noncomputable def ff13 (v : V13) : Tr (Fin th.R) := (Tr.need (f13_0 v) (Tr.need (f13_1 v) (Tr.need (f13_2 v) (Tr.need (f13_0 v) (Tr.need (f13_3 v) (Tr.leaf (SV.bool (f13_4 v), [(HO.ro (108 : Nat) (3 : Nat) (v.Q) (fun j => [SV.int .i64 (v.ok j), SV.int .u64 (v.oa j), SV.int .u64 (v.ow j)]) (v.ob_))], List.nil)))))))
noncomputable def f13 (v : V13) : Tr (Fin th.R) := (Tr.need (f13_1 v) (Tr.need (f13_2 v) (Tr.need (f13_3 v) (Tr.leaf (SV.bool (f13_4 v), [(HO.ro (108 : Nat) (3 : Nat) (v.Q) (fun j => [SV.int .i64 (v.ok j), SV.int .u64 (v.oa j), SV.int .u64 (v.ow j)]) (v.ob_))], [])))))
noncomputable def C13 : CF th.R := fnC d13 ofV13 (f13 )
theorem q13 (v : V13) : (evFn th Try.prog (auto th Try.prog nice73n [] 20) (autoH [(9, L13_0), (16, L13_1)] [] [] [] : Hints th) 13) (A13 v) (H13 v) = some (ff13 v) := by kernel_rfl
theorem qg13 (v : V13) : ((ff13 v).map (setD [])).get = (f13 v).get := by kernel_rfl
theorem qd13 (v : V13) : allD 1 [] (ff13 v) = true := by kernel_rfl
theorem s13 : Sound Try.prog th 13 (C13 ) := fnC_sound (evFn_sound' (T := th) (P := Try.prog) (tbl := (auto th Try.prog nice73n [] 20)) (auto_sound (nice := nice73n) (us := []) nok73n 20) (H := (autoH [(9, L13_0), (16, L13_1)] [] [] [] : Hints th)) (k := 13) (fnLoops ok13)) d13 A13 H13 toV13 (by kernel_rfl) (fun v => by kernel_rfl)
  (fun l v h => by
    unfold ofV13 at h
    split at h
    · cases h; rfl
    · cases h)
  [] (fun v => ⟨ff13 v, q13 v, fun h => by
    unfold f13 at h; unfold ff13
    simp only [Tr.ok, n_f13_0, true_and, and_true, forall_const, implies_true] at h ⊢
    try exact h, qg13 v, qd13 v⟩)
theorem qdd13 (v : V13) : (f13 v).get.2.2 = [] := by
  rw [← qg13, Tr.map_get]; rfl
end Go.Sx.M

namespace Go.Sx.M
open Go Go.Sx Go.Proofs Go.RowKit
set_option maxRecDepth 100000
/-! ### Writes keep a memory right -/
theorem wr_W (M : Mem) (a x : Int) : (wrM M a x).W = cnd (decide (errI M.size a = 0)) (upd M.W a x) M.W := rfl
theorem wr_ok {M : Mem} {a x : Int} (hM : MemOk M) (h0 : 0 ≤ a) (hx : U64 x) : MemOk (wrM M a x) := by
  by_cases he : errI M.size a = 0
  · obtain ⟨h8, hlt⟩ := errI_bad he
    have hw : (wrM M a x).W = upd M.W a x := by rw [wr_W, decide_eq_true he]; rfl
    refine ⟨hM.lo, hM.hi, hM.al, fun b hb => ?_, fun b => ?_⟩
    · rw [hw] at hb
      by_cases e : b = a
      · subst e; exact ⟨h0, hlt, h8⟩
      · rw [upd_other e] at hb; exact hM.dom b hb
    · rw [hw]
      by_cases e : b = a
      · subst e; rw [upd_same]; exact hx
      · rw [upd_other e]; exact hM.rng b
  · have hw : (wrM M a x).W = M.W := by rw [wr_W, decide_eq_false he]; rfl
    exact ⟨hM.lo, hM.hi, hM.al, fun b hb => hM.dom b (by rw [← hw]; exact hb), fun b => by rw [hw]; exact hM.rng b⟩
theorem wr_sup {M : Mem} {a x b : Int} (h : (wrM M a x).W b ≠ 0) : b = a ∨ M.W b ≠ 0 := by
  by_cases e : b = a
  · exact .inl e
  · right
    rw [wr_W] at h
    by_cases he : errI M.size a = 0
    · rw [decide_eq_true he] at h
      have h : upd M.W a x b ≠ 0 := h
      rwa [upd_other e] at h
    · rw [decide_eq_false he] at h; exact h
theorem hit_err {M : Mem} (hM : MemOk M) {fr w a : Int} : cnd (cnd (cnd (errI (szM M) a == 0) (rdM M a == w) false) (w != 0) false) (decide (a ≥ fr)) false = hitW M fr w a := by
  have e : ∀ x : Bool, cnd (cnd (cnd x (rdM M a == w) false) (w != 0) false) (decide (a ≥ fr)) false = cnd x (hitW M fr w a) false := fun x => by
    cases x
    · rfl
    · exact hit_eq
  rw [e]
  by_cases he : errI (szM M) a = 0
  · rw [show (errI (szM M) a == 0) = true from beq_iff_eq.2 he]; rfl
  · rw [show (errI (szM M) a == 0) = false from beq_eq_false_iff_ne.2 he]
    cases hh : hitW M fr w a with
    | false => rfl
    | true =>
      obtain ⟨a1, a2, a3, _⟩ := hit_dom hM hh
      exact absurd (errI_ok a3 a2) he
theorem l13_0 {p : P13_0} {L : Nat} (h30 : p.n30 = L) (h31 : p.x31 = L) (hN : p.N0 = L) (hL : L ≤ 60) (hu : ∀ j, j < L → U64 (p.F0_1 j) ∧ U64 (p.F0_2 j)) {s : S13_0} (hs : s.x32 = 0) (hM : MemOk s.R1) (h0 : ∀ b, s.R1.W b = 0) :
    LT (r13_0 p) s ∧ MemOk (lastS (r13_0 p) s).R1 ∧ ∀ b, (lastS (r13_0 p) s).R1.W b ≠ 0 → ∃ j, j < L ∧ p.F0_1 j = b := by
  refine LT.post (fun t : S13_0 => ∃ i : Nat, t.x32 = i ∧ i ≤ L ∧ MemOk t.R1 ∧ ∀ b, t.R1.W b ≠ 0 → ∃ j, j < i ∧ p.F0_1 j = b)
    (fun t : S13_0 => MemOk t.R1 ∧ ∀ b, t.R1.W b ≠ 0 → ∃ j, j < L ∧ p.F0_1 j = b) (fun t : S13_0 => L - t.x32.toNat) ?_ ⟨0, hs, Nat.zero_le _, hM, fun b hb => absurd (h0 b) hb⟩
  rintro ⟨x32, R⟩ ⟨i, g1, g2, g3, g4⟩
  simp only at g1 g3 g4
  subst g1
  by_cases hi : i < L
  · have hd : e13_0_0 p ⟨i, R⟩ = false := by
      show cnd (decide ((i : Int) < p.x31)) false true = false
      rw [decide_eq_true (by omega)]; rfl
    have e8 : e13_0_8 p ⟨i, R⟩ = i := by show 0 + (i : Int).toNat = i; omega
    have u := hu i hi
    have e9 : e13_0_9 p ⟨i, R⟩ = p.F0_1 i := by unfold e13_0_9; rw [e8]
    have e10 : e13_0_10 p ⟨i, R⟩ = p.F0_2 i := by unfold e13_0_10; rw [e8]
    have w6 : IntKind.i64.wrap ((i : Int) + 1) = ((i + 1 : Nat) : Int) := by rw [wrap_i64 (by omega) (by omega)]; omega
    have e7 : e13_0_7 p ⟨i, R⟩ = wrM R (p.F0_1 i) (p.F0_2 i) := by unfold e13_0_7; rw [e9, e10]
    simp only [r13_0, hd, Tr.ok, Tr.get]
    refine ⟨⟨(fun e => by cases e), fun _ => ⟨⟨by show (0 : Int) ≤ i; omega, by show (i : Int) < p.n30; omega⟩, by unfold e13_0_3; rw [e8, hN]; exact hi, by unfold e13_0_4; rw [e9, e10]; exact u, trivial⟩⟩,
      .inr ⟨_, rfl, ⟨i + 1, w6, hi, ?_, fun b hb => ?_⟩, ?_⟩⟩
    · show MemOk (e13_0_7 p ⟨i, R⟩)
      rw [e7]; exact wr_ok g3 u.1.1 u.2
    · have hb : (e13_0_7 p ⟨i, R⟩).W b ≠ 0 := hb
      rw [e7] at hb
      rcases wr_sup hb with e | h
      · exact ⟨i, by omega, e.symm⟩
      · obtain ⟨j, hj, e⟩ := g4 b h
        exact ⟨j, by omega, e⟩
    · show L - (IntKind.i64.wrap ((i : Int) + 1)).toNat < L - (i : Int).toNat
      rw [w6]; omega
  · have hd : e13_0_0 p ⟨i, R⟩ = true := by
      show cnd (decide ((i : Int) < p.x31)) false true = true
      rw [decide_eq_false (by omega)]; rfl
    have hiL : i = L := by omega
    subst hiL
    simp only [r13_0, hd, Tr.ok, Tr.get]
    exact ⟨⟨fun _ => trivial, (fun e => by cases e)⟩, .inl ⟨⟨_, _, _, rfl⟩, g3, g4⟩⟩
theorem l13_1 {p : P13_1} {L : Nat} {M : Mem} {fr w : Int} (hM : MemOk M) (h1 : p.x1 = fr) (h2 : p.x2 = w) (hR : p.R1 = M) (h50 : p.n50 = L) (h51 : p.x51 = L) (hN : p.N0 = L) (hL : L ≤ 60) (hu : ∀ j, j < L → U64 (p.F0_1 j)) {s : S13_1} (hs : s.x52 = 0) (hb : s.x13 = 0) (ht : s.b14 = false) :
    LT (r13_1 p) s ∧ (((lastS (r13_1 p) s).b14 = false ∧ (lastS (r13_1 p) s).x13 = 0 ∧ ∀ j, j < L → hitW M fr w (p.F0_1 j) = false) ∨
      ((lastS (r13_1 p) s).b14 = true ∧ hitW M fr w (lastS (r13_1 p) s).x13 = true ∧ ∀ j, j < L → hitW M fr w (p.F0_1 j) = true → (lastS (r13_1 p) s).x13 ≤ p.F0_1 j)) := by
  refine LT.post (fun t : S13_1 => ∃ i : Nat, t.x52 = i ∧ i ≤ L ∧ ((t.b14 = false ∧ t.x13 = 0 ∧ ∀ j, j < i → hitW M fr w (p.F0_1 j) = false) ∨ (t.b14 = true ∧ hitW M fr w t.x13 = true ∧ ∀ j, j < i → hitW M fr w (p.F0_1 j) = true → t.x13 ≤ p.F0_1 j)))
    (fun t : S13_1 => (t.b14 = false ∧ t.x13 = 0 ∧ ∀ j, j < L → hitW M fr w (p.F0_1 j) = false) ∨ (t.b14 = true ∧ hitW M fr w t.x13 = true ∧ ∀ j, j < L → hitW M fr w (p.F0_1 j) = true → t.x13 ≤ p.F0_1 j))
    (fun t : S13_1 => L - t.x52.toNat) ?_ ⟨0, hs, Nat.zero_le _, .inl ⟨ht, hb, fun j hj => absurd hj (Nat.not_lt_zero _)⟩⟩
  rintro ⟨x13, b14, x52⟩ ⟨i, g1, g2, g3⟩
  simp only at g1 g3
  subst g1
  by_cases hi : i < L
  · have hd : e13_1_0 p ⟨x13, b14, i⟩ = false := by
      show cnd (decide ((i : Int) < p.x51)) false true = false
      rw [decide_eq_true (by omega)]; rfl
    have e9 : e13_1_9 p ⟨x13, b14, i⟩ = i := by show 0 + (i : Int).toNat = i; omega
    have u := hu i hi
    have e10 : e13_1_10 p ⟨x13, b14, i⟩ = p.F0_1 i := by unfold e13_1_10; rw [e9]
    have w8 : IntKind.i64.wrap ((i : Int) + 1) = ((i + 1 : Nat) : Int) := by rw [wrap_i64 (by omega) (by omega)]; omega
    have e11 : e13_1_11 p ⟨x13, b14, i⟩ = cnd (hitW M fr w (p.F0_1 i)) (cnd (!b14) true (decide (p.F0_1 i < x13))) false := by
      unfold e13_1_11
      rw [e10, h1, h2, hR, hit_err hM]
    simp only [r13_1, hd, Tr.ok, Tr.get]
    refine ⟨⟨(fun e => by cases e), fun _ => ⟨⟨by show (0 : Int) ≤ i; omega, by show (i : Int) < p.n50; omega⟩, by unfold e13_1_3; rw [e9, hN]; exact hi, by unfold e13_1_4; rw [e10]; exact u, trivial⟩⟩,
      .inr ⟨_, rfl, ⟨i + 1, w8, hi, ?_⟩, ?_⟩⟩
    · show (e13_1_7 p _ = false ∧ e13_1_6 p _ = 0 ∧ _) ∨ (e13_1_7 p _ = true ∧ hitW M fr w (e13_1_6 p _) = true ∧ ∀ j, j < i + 1 → hitW M fr w (p.F0_1 j) = true → e13_1_6 p _ ≤ p.F0_1 j)
      unfold e13_1_7 e13_1_6
      rw [e11, e10]
      cases hh : hitW M fr w (p.F0_1 i) with
      | false =>
        show (b14 = false ∧ x13 = 0 ∧ _) ∨ (b14 = true ∧ hitW M fr w x13 = true ∧ _)
        rcases g3 with ⟨q1, q2, q3⟩ | ⟨q1, q2, q3⟩
        · refine .inl ⟨q1, q2, fun j hj => ?_⟩
          by_cases hji : j = i
          · rw [hji]; exact hh
          · exact q3 j (by omega)
        · refine .inr ⟨q1, q2, fun j hj hjh => ?_⟩
          by_cases hji : j = i
          · rw [hji, hh] at hjh; cases hjh
          · exact q3 j (by omega) hjh
      | true =>
        right
        rcases g3 with ⟨q1, q2, q3⟩ | ⟨q1, q2, q3⟩
        · rw [q1]
          refine ⟨rfl, hh, fun j hj hjh => ?_⟩
          by_cases hji : j = i
          · rw [hji]; exact Int.le_refl _
          · rw [q3 j (by omega)] at hjh; cases hjh
        · rw [q1]
          by_cases hlt : p.F0_1 i < x13
          · rw [decide_eq_true hlt]
            refine ⟨rfl, hh, fun j hj hjh => ?_⟩
            by_cases hji : j = i
            · rw [hji]; exact Int.le_refl _
            · have := q3 j (by omega) hjh
              show p.F0_1 i ≤ p.F0_1 j
              omega
          · rw [decide_eq_false hlt]
            refine ⟨rfl, q2, fun j hj hjh => ?_⟩
            by_cases hji : j = i
            · rw [hji]; show x13 ≤ p.F0_1 i; omega
            · exact q3 j (by omega) hjh
    · show L - (IntKind.i64.wrap ((i : Int) + 1)).toNat < L - (i : Int).toNat
      rw [w8]; omega
  · have hd : e13_1_0 p ⟨x13, b14, i⟩ = true := by
      show cnd (decide ((i : Int) < p.x51)) false true = true
      rw [decide_eq_false (by omega)]; rfl
    have hiL : i = L := by omega
    subst hiL
    refine ⟨?_, .inl ⟨?_, g3⟩⟩
    · simp only [r13_1, hd, Tr.ok]
      exact ⟨fun _ => trivial, (fun e => by cases e)⟩
    · simp only [r13_1, hd, Tr.get]
      exact ⟨_, _, _, rfl⟩
theorem ok_newM : MemOk (newM 1048576) := ok_new ⟨by decide, by decide, by decide⟩
theorem law13_true (v : V13) (hQ : v.Q = v.L) (hu : ∀ j, j < v.L → U64 (v.oa j) ∧ U64 (v.ow j)) : (f13 v).ok ∧ f13_4 v = true := by
  by_cases h40 : v.L ≤ 40
  · have h5 : f13_5 v = false := by unfold f13_5; exact decide_eq_false (by omega)
    obtain ⟨m1, m2, m3⟩ := l13_0 (p := P13_0.mk v.L v.fr v.w v.L (v.L : Int) v.Q v.ob_ v.ok v.oa v.ow) (L := v.L) rfl rfl hQ (by omega) hu (s := S13_0.mk 0 (newM 1048576)) rfl ok_newM (fun _ => rfl)
    have m2 : MemOk (f13_6 v) := m2
    have m3 : ∀ b, (f13_6 v).W b ≠ 0 → ∃ j, j < v.L ∧ v.oa j = b := m3
    obtain ⟨k1, k2⟩ := l13_1 (p := P13_1.mk v.fr v.w (f13_7 v) (f13_8 v) v.L (v.L : Int) v.Q v.ob_ v.ok v.oa v.ow (f13_6 v)) (L := v.L) (M := f13_6 v) (fr := v.fr) (w := v.w) m2 rfl rfl rfl rfl rfl hQ (by omega) (fun j hj => (hu j hj).1) (s := S13_1.mk 0 false 0) rfl rfl rfl
    have k2 : ((f13_9 v).b14 = false ∧ (f13_9 v).x13 = 0 ∧ ∀ j, j < v.L → hitW (f13_6 v) v.fr v.w (v.oa j) = false) ∨ ((f13_9 v).b14 = true ∧ hitW (f13_6 v) v.fr v.w (f13_9 v).x13 = true ∧ ∀ j, j < v.L → hitW (f13_6 v) v.fr v.w (v.oa j) = true → (f13_9 v).x13 ≤ v.oa j) := k2
    refine ⟨⟨fun _ _ _ => m1, fun _ _ _ => m2, fun _ _ _ => k1, trivial⟩, ?_⟩
    have fin : f13_8 v = (f13_9 v).b14 ∧ f13_7 v = (f13_9 v).x13 := by
      rcases fd_spec m2 v.fr v.w with ⟨a1, a2, a3⟩ | ⟨a1, a2, a3⟩
      · rcases k2 with ⟨b1, b2, _⟩ | ⟨_, b2, _⟩
        · exact ⟨by rw [b1]; exact a1, by rw [b2]; exact a2⟩
        · rw [a3] at b2; cases b2
      · obtain ⟨_, _, _, hn⟩ := hit_dom m2 a2
        obtain ⟨j, hj, e⟩ := m3 _ hn
        rcases k2 with ⟨_, _, b3⟩ | ⟨b1, b2, b3⟩
        · have := b3 j hj
          rw [e, a2] at this; cases this
        · refine ⟨by rw [b1]; exact a1, ?_⟩
          have h1 := b3 j hj (by rw [e]; exact a2)
          rw [e] at h1
          have h2 : ¬ (f13_9 v).x13 < fdA (f13_6 v) v.fr v.w := fun hc => by rw [a3 _ hc] at b2; cases b2
          show fdA (f13_6 v) v.fr v.w = _
          omega
    unfold f13_4
    rw [h5, fin.1, fin.2]
    simp [cnd]
  · have h5 : f13_5 v = true := by unfold f13_5; exact decide_eq_true (by omega)
    have n1 : ∀ {p : Prop}, f13_5 v = false → p := fun e => by rw [h5] at e; cases e
    refine ⟨⟨fun _ e => n1 e, fun _ e => n1 e, fun _ e => n1 e, trivial⟩, ?_⟩
    unfold f13_4
    rw [h5]; rfl
end Go.Sx.M

namespace Go.Sx.M
open Go Go.Sx Go.Proofs Go.RowKit
set_option maxRecDepth 100000
def pre13 (v : V13) : Prop := v.Q = v.L ∧ ∀ j, j < v.L → U64 (v.oa j) ∧ U64 (v.ow j)
theorem n13 (v : V13) (h : pre13 v) : (f13 v).ok ∧ (f13 v).get.1 = .bool true ∧ HOws (f13 v).get.2.1 [HO.ro 108 3 v.Q (fun j => [.int .i64 (v.ok j), .int .u64 (v.oa j), .int .u64 (v.ow j)]) v.ob_] := by
  obtain ⟨k1, k2⟩ := law13_true v h.1 h.2
  exact ⟨k1, congrArg SV.bool k2, .refl _⟩
noncomputable def f13n (v : V13) : Tr (Fin th.R) := .need (pre13 v) (.leaf (.bool true, [.ro 108 3 v.Q (fun j => [.int .i64 (v.ok j), .int .u64 (v.oa j), .int .u64 (v.ow j)]) v.ob_], []))
theorem s13n : Sound Try.prog th 13 (fnC d13 ofV13 f13n) := fnC_refine s13 fun v h => by
  obtain ⟨hp, _⟩ := h
  obtain ⟨a, b, c⟩ := n13 v hp
  exact ⟨a, b.symm, (qdd13 v).symm, c, by show 1 ≤ 1; decide⟩
theorem claw13 (v : V13) : fnC d13 ofV13 f13n (A13 v) (H13 v) = some (.need (∀ i, i < v.Q → (fun j => [.int .i64 (v.ok j), .int .u64 (v.oa j), .int .u64 (v.ow j)] : Nat → List SV) i = elC (fun j => [.int .i64 (v.ok j), .int .u64 (v.oa j), .int .u64 (v.ow j)] : Nat → List SV) 0 [.int .i64, .int .u64, .int .u64] i) ((f13n v).map (fixF (H13 v)))) := by kernel_rfl
noncomputable def nice13n : List (Nat × CF th.R) := (13, lift (fnC d13 ofV13 f13n)) :: nice73n
theorem nok13n : NiceOk Try.prog th nice13n := ⟨lift_sound s13n, nok73n⟩
end Go.Sx.M

