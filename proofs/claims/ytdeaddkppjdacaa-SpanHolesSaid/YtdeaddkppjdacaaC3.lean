/- Contracts of the functions of this seat, each by the executor and the kernel; part 3. Their conditions stand in each. -/
import Derived.Test.YtdeaddkppjdacaaC2
import Derived.Tactics
import Derived.Tactics2
set_option linter.unusedVariables false
set_option linter.unusedSimpArgs false
namespace Go.Sx.S
open Go Go.Sx Go.Proofs Go.RowKit
set_option maxRecDepth 100000
structure V39 where
  L : Nat
  n : Int
  M : Nat
  F : Nat → Int
  G : Nat → Int
def A39 (v : V39) : List SV := [.slc 0 2 0 v.L, .int .i64 v.n, .fn 33 []]
def H39 (v : V39) : List (HO th.R) := [.row 27 2 v.M (fun j => [.int .u64 (v.F j), .int .u64 (v.G j)])]
def toV39 (v : V39) : List (Vl th.R) := [.n v.L, .i v.n, .n v.M, .c v.F, .c v.G]
def ofV39 : List (Vl th.R) → Option V39
  | [.n L, .i n, .n M, .c F, .c G] => some ⟨L, n, M, F, G⟩
  | _ => none
def d39 : Ft := ⟨[.slc0 0 2, .int .i64, .fn 33 []], [.rowc 27 [.int .u64, .int .u64]]⟩
structure P39_0 where
  n0 : Nat
  x1 : Int
  x6 : Int
  N0 : Nat
structure S39_0 where
  x7 : Int
  x8 : Int
  F0_0 : Nat → Int
  F0_1 : Nat → Int
instance : Inhabited S39_0 := ⟨⟨0, 0, fun _ => 0, fun _ => 0⟩⟩
def I39_0 (p : P39_0) (s : S39_0) : St th.R := ⟨[some (.slc 0 2 0 p.n0), some (.int .i64 p.x1), some (.fn 33 []), none, none, none, some (.int .i64 p.x6), some (.int .i64 s.x7), some (.int .i64 s.x8), none, none, none, none, none, none, none, none, none, none, none, none, none, none, none, none, none, none, none, none, none, none, none, none, none, none, none, none, none, none, none, none, none, none, none, none, none, none, none, none, none, none, none, none, none, none, none, none, none, none, none, none, none, none], [.row 27 2 p.N0 (fun j => [.int .u64 (s.F0_0 j), .int .u64 (s.F0_1 j)])], [], []⟩
def d39_0 : Lp := ⟨⟨63, [(0, .slc0 0 2), (1, .int .i64), (2, .fn 33 []), (6, .int .i64), (7, .int .i64), (8, .int .i64)], [.rowc 27 [.int .u64, .int .u64]]⟩, [], 1, [0], [0, 1, 2, 6, 7], []⟩
def toV39_0 (p : P39_0) (s : S39_0) : List (Vl th.R) := [.n p.n0, .i p.x1, .i p.x6, .i s.x7, .i s.x8, .n p.N0, .c s.F0_0, .c s.F0_1]
def ofV39_0 : List (Vl th.R) → Option (P39_0 × S39_0)
  | [.n n0, .i x1, .i x6, .i x7, .i x8, .n N0, .c F0_0, .c F0_1] => some (⟨n0, x1, x6, N0⟩, ⟨x7, x8, F0_0, F0_1⟩)
  | _ => none
noncomputable def e39_0_0 (p : P39_0) (s : S39_0) : (Bool) := cnd (decide (s.x8 ≤ p.x1)) false true
noncomputable def e39_0_1 (p : P39_0) (s : S39_0) : (Prop) := ∀ (i : Nat), scpL (0:Nat) ((fun (j : Nat) => [SV.int IntKind.u64 (s.F0_0 j), SV.int IntKind.u64 (s.F0_1 j)]) i) = true
noncomputable def e39_0_2 (p : P39_0) (s : S39_0) : (Prop) := ∀ (i : Nat), i < p.N0 → (fun (j : Nat) => [SV.int IntKind.u64 (s.F0_0 j), SV.int IntKind.u64 (s.F0_1 j)]) i = elC (fun (j : Nat) => [SV.int IntKind.u64 (s.F0_0 j), SV.int IntKind.u64 (s.F0_1 j)]) (0:Nat) [Ck.int IntKind.u64, Ck.int IntKind.u64] i
noncomputable def e39_0_3 (p : P39_0) (s : S39_0) : (Prop) := pre43 (V43.mk p.n0 s.x7 s.x8 p.N0 s.F0_0 s.F0_1)
noncomputable def e39_0_4 (p : P39_0) (s : S39_0) : (Prop) := ∀ (i : Nat), scpL (0:Nat) ((fun (j : Nat) => [SV.int IntKind.u64 (So.srt (sp s.F0_0 s.F0_1) s.x7.toNat s.x8.toNat j).fst, SV.int IntKind.u64 (So.srt (sp s.F0_0 s.F0_1) s.x7.toNat s.x8.toNat j).snd]) i) = true
noncomputable def e39_0_5 (p : P39_0) (s : S39_0) : (Prop) := (∀ (i : Nat), scpL (0:Nat) ((fun (j : Nat) => [SV.int IntKind.u64 (So.srt (sp s.F0_0 s.F0_1) s.x7.toNat s.x8.toNat j).fst, SV.int IntKind.u64 (So.srt (sp s.F0_0 s.F0_1) s.x7.toNat s.x8.toNat j).snd]) i) = true) ∧ ∀ (i : Nat), i < p.N0 → (fun (j : Nat) => [SV.int IntKind.u64 (So.srt (sp s.F0_0 s.F0_1) s.x7.toNat s.x8.toNat j).fst, SV.int IntKind.u64 (So.srt (sp s.F0_0 s.F0_1) s.x7.toNat s.x8.toNat j).snd]) i = elC (fun (j : Nat) => [SV.int IntKind.u64 (So.srt (sp s.F0_0 s.F0_1) s.x7.toNat s.x8.toNat j).fst, SV.int IntKind.u64 (So.srt (sp s.F0_0 s.F0_1) s.x7.toNat s.x8.toNat j).snd]) (0:Nat) [Ck.int IntKind.u64, Ck.int IntKind.u64] i
noncomputable def e39_0_6 (p : P39_0) (s : S39_0) : (Int) := IntKind.i64.wrap (s.x8 + p.x6)
noncomputable def e39_0_7 (p : P39_0) (s : S39_0) : Nat → (Int) := fun j => (So.srt (sp s.F0_0 s.F0_1) s.x7.toNat s.x8.toNat j).fst
noncomputable def e39_0_8 (p : P39_0) (s : S39_0) : Nat → (Int) := fun j => (So.srt (sp s.F0_0 s.F0_1) s.x7.toNat s.x8.toNat j).snd
theorem n_e39_0_1 (p : P39_0) (s : S39_0) : e39_0_1 p s := by
  unfold e39_0_1
  first
    | (intros; rfl)
    | (intro i; rfl)
    | (intro i _; rfl)
    | (intro _ i; rfl)
    | (intro _ i _; rfl)
    | (refine ⟨?_, ?_⟩ <;> intro i <;> rfl)
    | (refine ⟨?_, ?_, ?_⟩ <;> intro i <;> rfl)
    | (refine ⟨?_, ?_⟩ <;> intro i _ <;> rfl)
    | (repeat' apply And.intro) <;> first | (intro i; rfl) | (intro i _; rfl) | (intro i h; exact absurd h (Nat.not_lt_zero i)) | (intro i; exact scpL_rowSet (by rfl) (by rfl)) | (intro i; exact scpL_rowEl (by kernel_rfl) _)
    | (intros; (repeat' apply And.intro) <;> intros <;> first | rfl | (exact absurd (by assumption) (Nat.not_lt_zero _)))
    | omega
    | decide
theorem n_e39_0_2 (p : P39_0) (s : S39_0) : e39_0_2 p s := by
  unfold e39_0_2
  first
    | (intros; rfl)
    | (intro i; rfl)
    | (intro i _; rfl)
    | (intro _ i; rfl)
    | (intro _ i _; rfl)
    | (refine ⟨?_, ?_⟩ <;> intro i <;> rfl)
    | (refine ⟨?_, ?_, ?_⟩ <;> intro i <;> rfl)
    | (refine ⟨?_, ?_⟩ <;> intro i _ <;> rfl)
    | (repeat' apply And.intro) <;> first | (intro i; rfl) | (intro i _; rfl) | (intro i h; exact absurd h (Nat.not_lt_zero i)) | (intro i; exact scpL_rowSet (by rfl) (by rfl)) | (intro i; exact scpL_rowEl (by kernel_rfl) _)
    | (intros; (repeat' apply And.intro) <;> intros <;> first | rfl | (exact absurd (by assumption) (Nat.not_lt_zero _)))
    | omega
    | decide
theorem n_e39_0_4 (p : P39_0) (s : S39_0) : e39_0_4 p s := by
  unfold e39_0_4
  first
    | (intros; rfl)
    | (intro i; rfl)
    | (intro i _; rfl)
    | (intro _ i; rfl)
    | (intro _ i _; rfl)
    | (refine ⟨?_, ?_⟩ <;> intro i <;> rfl)
    | (refine ⟨?_, ?_, ?_⟩ <;> intro i <;> rfl)
    | (refine ⟨?_, ?_⟩ <;> intro i _ <;> rfl)
    | (repeat' apply And.intro) <;> first | (intro i; rfl) | (intro i _; rfl) | (intro i h; exact absurd h (Nat.not_lt_zero i)) | (intro i; exact scpL_rowSet (by rfl) (by rfl)) | (intro i; exact scpL_rowEl (by kernel_rfl) _)
    | (intros; (repeat' apply And.intro) <;> intros <;> first | rfl | (exact absurd (by assumption) (Nat.not_lt_zero _)))
    | omega
    | decide
theorem n_e39_0_5 (p : P39_0) (s : S39_0) : e39_0_5 p s := by
  unfold e39_0_5
  first
    | (intros; rfl)
    | (intro i; rfl)
    | (intro i _; rfl)
    | (intro _ i; rfl)
    | (intro _ i _; rfl)
    | (refine ⟨?_, ?_⟩ <;> intro i <;> rfl)
    | (refine ⟨?_, ?_, ?_⟩ <;> intro i <;> rfl)
    | (refine ⟨?_, ?_⟩ <;> intro i _ <;> rfl)
    | (repeat' apply And.intro) <;> first | (intro i; rfl) | (intro i _; rfl) | (intro i h; exact absurd h (Nat.not_lt_zero i)) | (intro i; exact scpL_rowSet (by rfl) (by rfl)) | (intro i; exact scpL_rowEl (by kernel_rfl) _)
    | (intros; (repeat' apply And.intro) <;> intros <;> first | rfl | (exact absurd (by assumption) (Nat.not_lt_zero _)))
    | omega
    | decide
noncomputable def rf39_0 (p : P39_0) (s : S39_0) : Tr (Rs th.R S39_0) := (Tr.ite (e39_0_0 p s) (Tr.need (e39_0_1 p s) (Tr.leaf (Rs.out (Ex.exit ((0:Nat))) (List.cons (Option.some (SV.slc ((0:Nat)) ((2 : Nat)) ((0:Nat)) (p.n0))) (List.cons (Option.some (SV.int (IntKind.i64) (p.x1))) (List.cons (Option.some (SV.fn ((33 : Nat)) [])) (none :: (none :: (none :: (List.cons (Option.some (SV.int (IntKind.i64) (p.x6))) (List.cons (Option.some (SV.int (IntKind.i64) (s.x7))) (none :: (none :: (none :: (none :: (none :: (none :: (none :: (none :: (none :: (none :: (none :: (none :: (none :: (none :: (none :: (none :: (none :: (none :: (none :: (none :: (none :: (none :: (none :: (none :: (none :: (none :: (none :: (none :: (none :: (none :: (none :: (none :: (none :: (none :: (none :: (none :: (none :: (none :: (none :: (none :: (none :: (none :: (none :: (none :: (none :: (none :: (none :: (none :: (none :: (none :: (none :: (none :: (none :: (none :: (none :: []))))))))))))))))))))))))))))))))))))))))))))))))))))))))))))))) (List.cons (HO.row ((27 : Nat)) ((2 : Nat)) (p.N0) (fun j => (List.cons (SV.int (IntKind.u64) (s.F0_0 j)) (List.cons (SV.int (IntKind.u64) (s.F0_1 j)) [])))) [])))) (Tr.need (e39_0_1 p s) (Tr.need (e39_0_2 p s) (Tr.need (e39_0_3 p s) (Tr.need (e39_0_4 p s) (Tr.need (e39_0_5 p s) (Tr.leaf (Rs.on (S39_0.mk (s.x8) ((e39_0_6 p s)) ((fun j => (e39_0_7 p s j))) ((fun j => (e39_0_8 p s j))))))))))))
noncomputable def r39_0 (p : P39_0) (s : S39_0) : Tr (Rs th.R S39_0) := (Tr.ite (e39_0_0 p s) (Tr.leaf (Rs.out (Ex.exit ((0:Nat))) (List.cons (Option.some (SV.slc ((0:Nat)) ((2 : Nat)) ((0:Nat)) (p.n0))) (List.cons (Option.some (SV.int (IntKind.i64) (p.x1))) (List.cons (Option.some (SV.fn ((33 : Nat)) [])) (none :: (none :: (none :: (List.cons (Option.some (SV.int (IntKind.i64) (p.x6))) (List.cons (Option.some (SV.int (IntKind.i64) (s.x7))) (none :: (none :: (none :: (none :: (none :: (none :: (none :: (none :: (none :: (none :: (none :: (none :: (none :: (none :: (none :: (none :: (none :: (none :: (none :: (none :: (none :: (none :: (none :: (none :: (none :: (none :: (none :: (none :: (none :: (none :: (none :: (none :: (none :: (none :: (none :: (none :: (none :: (none :: (none :: (none :: (none :: (none :: (none :: (none :: (none :: (none :: (none :: (none :: (none :: (none :: (none :: (none :: (none :: (none :: (none :: []))))))))))))))))))))))))))))))))))))))))))))))))))))))))))))))) (List.cons (HO.row ((27 : Nat)) ((2 : Nat)) (p.N0) (fun j => (List.cons (SV.int (IntKind.u64) (s.F0_0 j)) (List.cons (SV.int (IntKind.u64) (s.F0_1 j)) [])))) []))) (Tr.need (e39_0_3 p s) (Tr.leaf (Rs.on (S39_0.mk (s.x8) ((e39_0_6 p s)) ((fun j => (e39_0_7 p s j))) ((fun j => (e39_0_8 p s j))))))))
noncomputable def E39_0 : St th.R → Out th := evCode th Try.prog (auto th Try.prog nice44n [] 20) (autoH [] [] [] [999998] : Hints th) (lpAt Try.prog 39 0)
theorem B39_0 : CodeSound th Try.prog (lpAt Try.prog 39 0) E39_0 := evCode_sound (T := th) (P := Try.prog) (tbl := (auto th Try.prog nice44n [] 20)) (auto_sound (nice := nice44n) (us := []) nok44n 20) (autoH [] [] [] [999998] : Hints th) _ (LoopsOk_mem (fun _ => rfl) _ fun b hb L hL => by cases hL)
noncomputable def L39_0 : St th.R → Out th := loopL d39_0 ofV39_0 r39_0
theorem h1_39_0 (p : P39_0) (s : S39_0) : bld d39_0.tm (toV39_0 p s) = some (I39_0 p s) := by kernel_rfl
theorem h2_39_0 (l : List (Vl th.R)) (p : P39_0) (s : S39_0) (h : ofV39_0 l = some (p, s)) : l = toV39_0 p s := by
  unfold ofV39_0 at h
  split at h
  · cases h; rfl
  · cases h
theorem h3_39_0 (p : P39_0) (s : S39_0) : cvE d39_0 (E39_0 (I39_0 p s)) = some ((rf39_0 p s).map (Rs.map (toV39_0 p))) := by kernel_rfl
theorem h3g_39_0 (p : P39_0) (s : S39_0) : (rf39_0 p s).get = (r39_0 p s).get := by kernel_rfl
theorem h4_39_0 (p : P39_0) (s s1 : S39_0) : outH d39_0.dirt d39_0.n0 (r39_0 p s) = repH (maskH d39_0.dirt 0 d39_0.n0 (I39_0 p s1).heap) (r39_0 p s) := by kernel_rfl
theorem ls39_0 : CodeSound th Try.prog (.loop (lpAt Try.prog 39 0)) L39_0 := loopL_sound B39_0 d39_0 I39_0 toV39_0 (by kernel_rfl) h1_39_0 h2_39_0
  (fun p s => ⟨(rf39_0 p s).map (Rs.map (toV39_0 p)), h3_39_0 p s, fun h => by
    rw [Tr.map_ok]
    unfold r39_0 at h; unfold rf39_0
    simp only [Tr.ok, n_e39_0_1, n_e39_0_2, n_e39_0_4, n_e39_0_5, true_and, and_true, forall_const, implies_true] at h ⊢
    try exact h, by rw [Tr.map_get, h3g_39_0 p s]⟩) h4_39_0
structure P39_2 where
  n0 : Nat
  x1 : Int
  x6 : Int
  N0 : Nat
structure S39_2 where
  x7 : Int
  x8 : Int
  F0_0 : Nat → Int
  F0_1 : Nat → Int
instance : Inhabited S39_2 := ⟨⟨0, 0, fun _ => 0, fun _ => 0⟩⟩
def I39_2 (p : P39_2) (s : S39_2) : St th.R := ⟨[some (.slc 0 2 0 p.n0), some (.int .i64 p.x1), some (.fn 33 []), none, none, none, some (.int .i64 p.x6), some (.int .i64 s.x7), some (.int .i64 s.x8), none, none, none, none, none, none, none, none, none, none, none, none, none, none, none, none, none, none, none, none, none, none, none, none, none, none, none, none, none, none, none, none, none, none, none, none, none, none, none, none, none, none, none, none, none, none, none, none, none, none, none, none, none, none], [.row 27 2 p.N0 (fun j => [.int .u64 (s.F0_0 j), .int .u64 (s.F0_1 j)])], [], []⟩
def d39_2 : Lp := ⟨⟨63, [(0, .slc0 0 2), (1, .int .i64), (2, .fn 33 []), (6, .int .i64), (7, .int .i64), (8, .int .i64)], [.rowc 27 [.int .u64, .int .u64]]⟩, [], 1, [0], [0, 1, 2, 6, 7], []⟩
def toV39_2 (p : P39_2) (s : S39_2) : List (Vl th.R) := [.n p.n0, .i p.x1, .i p.x6, .i s.x7, .i s.x8, .n p.N0, .c s.F0_0, .c s.F0_1]
def ofV39_2 : List (Vl th.R) → Option (P39_2 × S39_2)
  | [.n n0, .i x1, .i x6, .i x7, .i x8, .n N0, .c F0_0, .c F0_1] => some (⟨n0, x1, x6, N0⟩, ⟨x7, x8, F0_0, F0_1⟩)
  | _ => none
noncomputable def e39_2_0 (p : P39_2) (s : S39_2) : (Bool) := cnd (decide (s.x8 ≤ p.x1)) false true
noncomputable def e39_2_1 (p : P39_2) (s : S39_2) : (Prop) := ∀ (i : Nat), scpL (0:Nat) ((fun (j : Nat) => [SV.int IntKind.u64 (s.F0_0 j), SV.int IntKind.u64 (s.F0_1 j)]) i) = true
noncomputable def e39_2_2 (p : P39_2) (s : S39_2) : (Prop) := ∀ (i : Nat), i < p.N0 → (fun (j : Nat) => [SV.int IntKind.u64 (s.F0_0 j), SV.int IntKind.u64 (s.F0_1 j)]) i = elC (fun (j : Nat) => [SV.int IntKind.u64 (s.F0_0 j), SV.int IntKind.u64 (s.F0_1 j)]) (0:Nat) [Ck.int IntKind.u64, Ck.int IntKind.u64] i
noncomputable def e39_2_3 (p : P39_2) (s : S39_2) : (Prop) := pre44 (V44.mk p.n0 s.x7 (IntKind.i64.wrap (s.x7 + p.x6)) s.x8 p.N0 s.F0_0 s.F0_1)
noncomputable def e39_2_4 (p : P39_2) (s : S39_2) : (Prop) := ∀ (i : Nat), scpL (0:Nat) ((fun (j : Nat) => [SV.int IntKind.u64 (So.srt (sp s.F0_0 s.F0_1) s.x7.toNat s.x8.toNat j).fst, SV.int IntKind.u64 (So.srt (sp s.F0_0 s.F0_1) s.x7.toNat s.x8.toNat j).snd]) i) = true
noncomputable def e39_2_5 (p : P39_2) (s : S39_2) : (Prop) := (∀ (i : Nat), scpL (0:Nat) ((fun (j : Nat) => [SV.int IntKind.u64 (So.srt (sp s.F0_0 s.F0_1) s.x7.toNat s.x8.toNat j).fst, SV.int IntKind.u64 (So.srt (sp s.F0_0 s.F0_1) s.x7.toNat s.x8.toNat j).snd]) i) = true) ∧ ∀ (i : Nat), i < p.N0 → (fun (j : Nat) => [SV.int IntKind.u64 (So.srt (sp s.F0_0 s.F0_1) s.x7.toNat s.x8.toNat j).fst, SV.int IntKind.u64 (So.srt (sp s.F0_0 s.F0_1) s.x7.toNat s.x8.toNat j).snd]) i = elC (fun (j : Nat) => [SV.int IntKind.u64 (So.srt (sp s.F0_0 s.F0_1) s.x7.toNat s.x8.toNat j).fst, SV.int IntKind.u64 (So.srt (sp s.F0_0 s.F0_1) s.x7.toNat s.x8.toNat j).snd]) (0:Nat) [Ck.int IntKind.u64, Ck.int IntKind.u64] i
noncomputable def e39_2_6 (p : P39_2) (s : S39_2) : (Int) := IntKind.i64.wrap (s.x8 + IntKind.i64.wrap ((2 : Int) * p.x6))
noncomputable def e39_2_7 (p : P39_2) (s : S39_2) : Nat → (Int) := fun j => (So.srt (sp s.F0_0 s.F0_1) s.x7.toNat s.x8.toNat j).fst
noncomputable def e39_2_8 (p : P39_2) (s : S39_2) : Nat → (Int) := fun j => (So.srt (sp s.F0_0 s.F0_1) s.x7.toNat s.x8.toNat j).snd
theorem n_e39_2_1 (p : P39_2) (s : S39_2) : e39_2_1 p s := by
  unfold e39_2_1
  first
    | (intros; rfl)
    | (intro i; rfl)
    | (intro i _; rfl)
    | (intro _ i; rfl)
    | (intro _ i _; rfl)
    | (refine ⟨?_, ?_⟩ <;> intro i <;> rfl)
    | (refine ⟨?_, ?_, ?_⟩ <;> intro i <;> rfl)
    | (refine ⟨?_, ?_⟩ <;> intro i _ <;> rfl)
    | (repeat' apply And.intro) <;> first | (intro i; rfl) | (intro i _; rfl) | (intro i h; exact absurd h (Nat.not_lt_zero i)) | (intro i; exact scpL_rowSet (by rfl) (by rfl)) | (intro i; exact scpL_rowEl (by kernel_rfl) _)
    | (intros; (repeat' apply And.intro) <;> intros <;> first | rfl | (exact absurd (by assumption) (Nat.not_lt_zero _)))
    | omega
    | decide
theorem n_e39_2_2 (p : P39_2) (s : S39_2) : e39_2_2 p s := by
  unfold e39_2_2
  first
    | (intros; rfl)
    | (intro i; rfl)
    | (intro i _; rfl)
    | (intro _ i; rfl)
    | (intro _ i _; rfl)
    | (refine ⟨?_, ?_⟩ <;> intro i <;> rfl)
    | (refine ⟨?_, ?_, ?_⟩ <;> intro i <;> rfl)
    | (refine ⟨?_, ?_⟩ <;> intro i _ <;> rfl)
    | (repeat' apply And.intro) <;> first | (intro i; rfl) | (intro i _; rfl) | (intro i h; exact absurd h (Nat.not_lt_zero i)) | (intro i; exact scpL_rowSet (by rfl) (by rfl)) | (intro i; exact scpL_rowEl (by kernel_rfl) _)
    | (intros; (repeat' apply And.intro) <;> intros <;> first | rfl | (exact absurd (by assumption) (Nat.not_lt_zero _)))
    | omega
    | decide
theorem n_e39_2_4 (p : P39_2) (s : S39_2) : e39_2_4 p s := by
  unfold e39_2_4
  first
    | (intros; rfl)
    | (intro i; rfl)
    | (intro i _; rfl)
    | (intro _ i; rfl)
    | (intro _ i _; rfl)
    | (refine ⟨?_, ?_⟩ <;> intro i <;> rfl)
    | (refine ⟨?_, ?_, ?_⟩ <;> intro i <;> rfl)
    | (refine ⟨?_, ?_⟩ <;> intro i _ <;> rfl)
    | (repeat' apply And.intro) <;> first | (intro i; rfl) | (intro i _; rfl) | (intro i h; exact absurd h (Nat.not_lt_zero i)) | (intro i; exact scpL_rowSet (by rfl) (by rfl)) | (intro i; exact scpL_rowEl (by kernel_rfl) _)
    | (intros; (repeat' apply And.intro) <;> intros <;> first | rfl | (exact absurd (by assumption) (Nat.not_lt_zero _)))
    | omega
    | decide
theorem n_e39_2_5 (p : P39_2) (s : S39_2) : e39_2_5 p s := by
  unfold e39_2_5
  first
    | (intros; rfl)
    | (intro i; rfl)
    | (intro i _; rfl)
    | (intro _ i; rfl)
    | (intro _ i _; rfl)
    | (refine ⟨?_, ?_⟩ <;> intro i <;> rfl)
    | (refine ⟨?_, ?_, ?_⟩ <;> intro i <;> rfl)
    | (refine ⟨?_, ?_⟩ <;> intro i _ <;> rfl)
    | (repeat' apply And.intro) <;> first | (intro i; rfl) | (intro i _; rfl) | (intro i h; exact absurd h (Nat.not_lt_zero i)) | (intro i; exact scpL_rowSet (by rfl) (by rfl)) | (intro i; exact scpL_rowEl (by kernel_rfl) _)
    | (intros; (repeat' apply And.intro) <;> intros <;> first | rfl | (exact absurd (by assumption) (Nat.not_lt_zero _)))
    | omega
    | decide
noncomputable def rf39_2 (p : P39_2) (s : S39_2) : Tr (Rs th.R S39_2) := (Tr.ite (e39_2_0 p s) (Tr.need (e39_2_1 p s) (Tr.leaf (Rs.out (Ex.exit ((4 : Nat))) (List.cons (Option.some (SV.slc ((0:Nat)) ((2 : Nat)) ((0:Nat)) (p.n0))) (List.cons (Option.some (SV.int (IntKind.i64) (p.x1))) (List.cons (Option.some (SV.fn ((33 : Nat)) [])) (none :: (none :: (none :: (List.cons (Option.some (SV.int (IntKind.i64) (p.x6))) (List.cons (Option.some (SV.int (IntKind.i64) (s.x7))) (none :: (none :: (none :: (none :: (none :: (none :: (none :: (none :: (none :: (none :: (none :: (none :: (none :: (none :: (none :: (none :: (none :: (none :: (none :: (none :: (none :: (none :: (none :: (none :: (none :: (none :: (none :: (none :: (none :: (none :: (none :: (none :: (none :: (none :: (none :: (none :: (none :: (none :: (none :: (none :: (none :: (none :: (none :: (none :: (none :: (none :: (none :: (none :: (none :: (none :: (none :: (none :: (none :: (none :: (none :: []))))))))))))))))))))))))))))))))))))))))))))))))))))))))))))))) (List.cons (HO.row ((27 : Nat)) ((2 : Nat)) (p.N0) (fun j => (List.cons (SV.int (IntKind.u64) (s.F0_0 j)) (List.cons (SV.int (IntKind.u64) (s.F0_1 j)) [])))) [])))) (Tr.need (e39_2_1 p s) (Tr.need (e39_2_2 p s) (Tr.need (e39_2_3 p s) (Tr.need (e39_2_4 p s) (Tr.need (e39_2_5 p s) (Tr.leaf (Rs.on (S39_2.mk (s.x8) ((e39_2_6 p s)) ((fun j => (e39_2_7 p s j))) ((fun j => (e39_2_8 p s j))))))))))))
noncomputable def r39_2 (p : P39_2) (s : S39_2) : Tr (Rs th.R S39_2) := (Tr.ite (e39_2_0 p s) (Tr.leaf (Rs.out (Ex.exit ((4 : Nat))) (List.cons (Option.some (SV.slc ((0:Nat)) ((2 : Nat)) ((0:Nat)) (p.n0))) (List.cons (Option.some (SV.int (IntKind.i64) (p.x1))) (List.cons (Option.some (SV.fn ((33 : Nat)) [])) (none :: (none :: (none :: (List.cons (Option.some (SV.int (IntKind.i64) (p.x6))) (List.cons (Option.some (SV.int (IntKind.i64) (s.x7))) (none :: (none :: (none :: (none :: (none :: (none :: (none :: (none :: (none :: (none :: (none :: (none :: (none :: (none :: (none :: (none :: (none :: (none :: (none :: (none :: (none :: (none :: (none :: (none :: (none :: (none :: (none :: (none :: (none :: (none :: (none :: (none :: (none :: (none :: (none :: (none :: (none :: (none :: (none :: (none :: (none :: (none :: (none :: (none :: (none :: (none :: (none :: (none :: (none :: (none :: (none :: (none :: (none :: (none :: (none :: []))))))))))))))))))))))))))))))))))))))))))))))))))))))))))))))) (List.cons (HO.row ((27 : Nat)) ((2 : Nat)) (p.N0) (fun j => (List.cons (SV.int (IntKind.u64) (s.F0_0 j)) (List.cons (SV.int (IntKind.u64) (s.F0_1 j)) [])))) []))) (Tr.need (e39_2_3 p s) (Tr.leaf (Rs.on (S39_2.mk (s.x8) ((e39_2_6 p s)) ((fun j => (e39_2_7 p s j))) ((fun j => (e39_2_8 p s j))))))))
noncomputable def E39_2 : St th.R → Out th := evCode th Try.prog (auto th Try.prog nice44n [] 20) (autoH [] [] [] [999998] : Hints th) (lpAt Try.prog 39 2)
theorem B39_2 : CodeSound th Try.prog (lpAt Try.prog 39 2) E39_2 := evCode_sound (T := th) (P := Try.prog) (tbl := (auto th Try.prog nice44n [] 20)) (auto_sound (nice := nice44n) (us := []) nok44n 20) (autoH [] [] [] [999998] : Hints th) _ (LoopsOk_mem (fun _ => rfl) _ fun b hb L hL => by cases hL)
noncomputable def L39_2 : St th.R → Out th := loopL d39_2 ofV39_2 r39_2
theorem h1_39_2 (p : P39_2) (s : S39_2) : bld d39_2.tm (toV39_2 p s) = some (I39_2 p s) := by kernel_rfl
theorem h2_39_2 (l : List (Vl th.R)) (p : P39_2) (s : S39_2) (h : ofV39_2 l = some (p, s)) : l = toV39_2 p s := by
  unfold ofV39_2 at h
  split at h
  · cases h; rfl
  · cases h
theorem h3_39_2 (p : P39_2) (s : S39_2) : cvE d39_2 (E39_2 (I39_2 p s)) = some ((rf39_2 p s).map (Rs.map (toV39_2 p))) := by kernel_rfl
theorem h3g_39_2 (p : P39_2) (s : S39_2) : (rf39_2 p s).get = (r39_2 p s).get := by kernel_rfl
theorem h4_39_2 (p : P39_2) (s s1 : S39_2) : outH d39_2.dirt d39_2.n0 (r39_2 p s) = repH (maskH d39_2.dirt 0 d39_2.n0 (I39_2 p s1).heap) (r39_2 p s) := by kernel_rfl
theorem ls39_2 : CodeSound th Try.prog (.loop (lpAt Try.prog 39 2)) L39_2 := loopL_sound B39_2 d39_2 I39_2 toV39_2 (by kernel_rfl) h1_39_2 h2_39_2
  (fun p s => ⟨(rf39_2 p s).map (Rs.map (toV39_2 p)), h3_39_2 p s, fun h => by
    rw [Tr.map_ok]
    unfold r39_2 at h; unfold rf39_2
    simp only [Tr.ok, n_e39_2_1, n_e39_2_2, n_e39_2_4, n_e39_2_5, true_and, and_true, forall_const, implies_true] at h ⊢
    try exact h, by rw [Tr.map_get, h3g_39_2 p s]⟩) h4_39_2
structure P39_1 where
  n0 : Nat
  x1 : Int
  N0 : Nat
structure S39_1 where
  x6 : Int
  F0_0 : Nat → Int
  F0_1 : Nat → Int
instance : Inhabited S39_1 := ⟨⟨0, fun _ => 0, fun _ => 0⟩⟩
def I39_1 (p : P39_1) (s : S39_1) : St th.R := ⟨[some (.slc 0 2 0 p.n0), some (.int .i64 p.x1), some (.fn 33 []), none, none, none, some (.int .i64 s.x6), none, none, none, none, none, none, none, none, none, none, none, none, none, none, none, none, none, none, none, none, none, none, none, none, none, none, none, none, none, none, none, none, none, none, none, none, none, none, none, none, none, none, none, none, none, none, none, none, none, none, none, none, none, none, none, none], [.row 27 2 p.N0 (fun j => [.int .u64 (s.F0_0 j), .int .u64 (s.F0_1 j)])], [], []⟩
def d39_1 : Lp := ⟨⟨63, [(0, .slc0 0 2), (1, .int .i64), (2, .fn 33 []), (6, .int .i64)], [.rowc 27 [.int .u64, .int .u64]]⟩, [], 1, [0], [], []⟩
def toV39_1 (p : P39_1) (s : S39_1) : List (Vl th.R) := [.n p.n0, .i p.x1, .i s.x6, .n p.N0, .c s.F0_0, .c s.F0_1]
def ofV39_1 : List (Vl th.R) → Option (P39_1 × S39_1)
  | [.n n0, .i x1, .i x6, .n N0, .c F0_0, .c F0_1] => some (⟨n0, x1, N0⟩, ⟨x6, F0_0, F0_1⟩)
  | _ => none
noncomputable def e39_1_0 (p : P39_1) (s : S39_1) : (Bool) := cnd (decide (s.x6 < p.x1)) false true
noncomputable def e39_1_1 (p : P39_1) (s : S39_1) : (Prop) := ∀ (i : Nat), scpL (0:Nat) ((fun (j : Nat) => [SV.int IntKind.u64 (s.F0_0 j), SV.int IntKind.u64 (s.F0_1 j)]) i) = true
noncomputable def e39_1_2 (p : P39_1) (s : S39_1) : (Prop) := ∀ (i : Nat), i < p.N0 → (fun (j : Nat) => [SV.int IntKind.u64 (s.F0_0 j), SV.int IntKind.u64 (s.F0_1 j)]) i = elC (fun (j : Nat) => [SV.int IntKind.u64 (s.F0_0 j), SV.int IntKind.u64 (s.F0_1 j)]) (0:Nat) [Ck.int IntKind.u64, Ck.int IntKind.u64] i
noncomputable def e39_1_3 (p : P39_1) (s : S39_1) : (Prop) := LT (r39_2 (P39_2.mk p.n0 p.x1 s.x6 p.N0)) (S39_2.mk (0 : Int) (IntKind.i64.wrap ((2 : Int) * s.x6)) s.F0_0 s.F0_1)
noncomputable def e39_1_4 (p : P39_1) (s : S39_1) : (Prop) := decide (IntKind.i64.wrap ((lastS (r39_2 (P39_2.mk p.n0 p.x1 s.x6 p.N0)) (S39_2.mk (0 : Int) (IntKind.i64.wrap ((2 : Int) * s.x6)) s.F0_0 s.F0_1)).x7 + s.x6) < p.x1) = true → ∀ (i : Nat), scpL (0:Nat) ((fun (j : Nat) => [SV.int IntKind.u64 ((lastS (r39_2 (P39_2.mk p.n0 p.x1 s.x6 p.N0)) (S39_2.mk (0 : Int) (IntKind.i64.wrap ((2 : Int) * s.x6)) s.F0_0 s.F0_1)).F0_0 j), SV.int IntKind.u64 ((lastS (r39_2 (P39_2.mk p.n0 p.x1 s.x6 p.N0)) (S39_2.mk (0 : Int) (IntKind.i64.wrap ((2 : Int) * s.x6)) s.F0_0 s.F0_1)).F0_1 j)]) i) = true
noncomputable def e39_1_5 (p : P39_1) (s : S39_1) : (Prop) := decide (IntKind.i64.wrap ((lastS (r39_2 (P39_2.mk p.n0 p.x1 s.x6 p.N0)) (S39_2.mk (0 : Int) (IntKind.i64.wrap ((2 : Int) * s.x6)) s.F0_0 s.F0_1)).x7 + s.x6) < p.x1) = true → ∀ (i : Nat), i < p.N0 → (fun (j : Nat) => [SV.int IntKind.u64 ((lastS (r39_2 (P39_2.mk p.n0 p.x1 s.x6 p.N0)) (S39_2.mk (0 : Int) (IntKind.i64.wrap ((2 : Int) * s.x6)) s.F0_0 s.F0_1)).F0_0 j), SV.int IntKind.u64 ((lastS (r39_2 (P39_2.mk p.n0 p.x1 s.x6 p.N0)) (S39_2.mk (0 : Int) (IntKind.i64.wrap ((2 : Int) * s.x6)) s.F0_0 s.F0_1)).F0_1 j)]) i = elC (fun (j : Nat) => [SV.int IntKind.u64 ((lastS (r39_2 (P39_2.mk p.n0 p.x1 s.x6 p.N0)) (S39_2.mk (0 : Int) (IntKind.i64.wrap ((2 : Int) * s.x6)) s.F0_0 s.F0_1)).F0_0 j), SV.int IntKind.u64 ((lastS (r39_2 (P39_2.mk p.n0 p.x1 s.x6 p.N0)) (S39_2.mk (0 : Int) (IntKind.i64.wrap ((2 : Int) * s.x6)) s.F0_0 s.F0_1)).F0_1 j)]) (0:Nat) [Ck.int IntKind.u64, Ck.int IntKind.u64] i
noncomputable def e39_1_6 (p : P39_1) (s : S39_1) : (Prop) := decide (IntKind.i64.wrap ((lastS (r39_2 (P39_2.mk p.n0 p.x1 s.x6 p.N0)) (S39_2.mk (0 : Int) (IntKind.i64.wrap ((2 : Int) * s.x6)) s.F0_0 s.F0_1)).x7 + s.x6) < p.x1) = true → pre44 (V44.mk p.n0 (lastS (r39_2 (P39_2.mk p.n0 p.x1 s.x6 p.N0)) (S39_2.mk (0 : Int) (IntKind.i64.wrap ((2 : Int) * s.x6)) s.F0_0 s.F0_1)).x7 (IntKind.i64.wrap ((lastS (r39_2 (P39_2.mk p.n0 p.x1 s.x6 p.N0)) (S39_2.mk (0 : Int) (IntKind.i64.wrap ((2 : Int) * s.x6)) s.F0_0 s.F0_1)).x7 + s.x6)) p.x1 p.N0 (lastS (r39_2 (P39_2.mk p.n0 p.x1 s.x6 p.N0)) (S39_2.mk (0 : Int) (IntKind.i64.wrap ((2 : Int) * s.x6)) s.F0_0 s.F0_1)).F0_0 (lastS (r39_2 (P39_2.mk p.n0 p.x1 s.x6 p.N0)) (S39_2.mk (0 : Int) (IntKind.i64.wrap ((2 : Int) * s.x6)) s.F0_0 s.F0_1)).F0_1)
noncomputable def e39_1_7 (p : P39_1) (s : S39_1) : (Prop) := decide (IntKind.i64.wrap ((lastS (r39_2 (P39_2.mk p.n0 p.x1 s.x6 p.N0)) (S39_2.mk (0 : Int) (IntKind.i64.wrap ((2 : Int) * s.x6)) s.F0_0 s.F0_1)).x7 + s.x6) < p.x1) = true → ∀ (i : Nat), scpL (0:Nat) ((fun (j : Nat) => [SV.int IntKind.u64 (So.srt (sp (lastS (r39_2 (P39_2.mk p.n0 p.x1 s.x6 p.N0)) (S39_2.mk (0 : Int) (IntKind.i64.wrap ((2 : Int) * s.x6)) s.F0_0 s.F0_1)).F0_0 (lastS (r39_2 (P39_2.mk p.n0 p.x1 s.x6 p.N0)) (S39_2.mk (0 : Int) (IntKind.i64.wrap ((2 : Int) * s.x6)) s.F0_0 s.F0_1)).F0_1) (lastS (r39_2 (P39_2.mk p.n0 p.x1 s.x6 p.N0)) (S39_2.mk (0 : Int) (IntKind.i64.wrap ((2 : Int) * s.x6)) s.F0_0 s.F0_1)).x7.toNat p.x1.toNat j).fst, SV.int IntKind.u64 (So.srt (sp (lastS (r39_2 (P39_2.mk p.n0 p.x1 s.x6 p.N0)) (S39_2.mk (0 : Int) (IntKind.i64.wrap ((2 : Int) * s.x6)) s.F0_0 s.F0_1)).F0_0 (lastS (r39_2 (P39_2.mk p.n0 p.x1 s.x6 p.N0)) (S39_2.mk (0 : Int) (IntKind.i64.wrap ((2 : Int) * s.x6)) s.F0_0 s.F0_1)).F0_1) (lastS (r39_2 (P39_2.mk p.n0 p.x1 s.x6 p.N0)) (S39_2.mk (0 : Int) (IntKind.i64.wrap ((2 : Int) * s.x6)) s.F0_0 s.F0_1)).x7.toNat p.x1.toNat j).snd]) i) = true
noncomputable def e39_1_8 (p : P39_1) (s : S39_1) : (Bool) := decide (IntKind.i64.wrap ((lastS (r39_2 (P39_2.mk p.n0 p.x1 s.x6 p.N0)) (S39_2.mk (0 : Int) (IntKind.i64.wrap ((2 : Int) * s.x6)) s.F0_0 s.F0_1)).x7 + s.x6) < p.x1)
noncomputable def e39_1_9 (p : P39_1) (s : S39_1) : (Prop) := (∀ (i : Nat), scpL (0:Nat) ((fun (j : Nat) => [SV.int IntKind.u64 (So.srt (sp (lastS (r39_2 (P39_2.mk p.n0 p.x1 s.x6 p.N0)) (S39_2.mk (0 : Int) (IntKind.i64.wrap ((2 : Int) * s.x6)) s.F0_0 s.F0_1)).F0_0 (lastS (r39_2 (P39_2.mk p.n0 p.x1 s.x6 p.N0)) (S39_2.mk (0 : Int) (IntKind.i64.wrap ((2 : Int) * s.x6)) s.F0_0 s.F0_1)).F0_1) (lastS (r39_2 (P39_2.mk p.n0 p.x1 s.x6 p.N0)) (S39_2.mk (0 : Int) (IntKind.i64.wrap ((2 : Int) * s.x6)) s.F0_0 s.F0_1)).x7.toNat p.x1.toNat j).fst, SV.int IntKind.u64 (So.srt (sp (lastS (r39_2 (P39_2.mk p.n0 p.x1 s.x6 p.N0)) (S39_2.mk (0 : Int) (IntKind.i64.wrap ((2 : Int) * s.x6)) s.F0_0 s.F0_1)).F0_0 (lastS (r39_2 (P39_2.mk p.n0 p.x1 s.x6 p.N0)) (S39_2.mk (0 : Int) (IntKind.i64.wrap ((2 : Int) * s.x6)) s.F0_0 s.F0_1)).F0_1) (lastS (r39_2 (P39_2.mk p.n0 p.x1 s.x6 p.N0)) (S39_2.mk (0 : Int) (IntKind.i64.wrap ((2 : Int) * s.x6)) s.F0_0 s.F0_1)).x7.toNat p.x1.toNat j).snd]) i) = true) ∧ ∀ (i : Nat), i < p.N0 → (fun (j : Nat) => [SV.int IntKind.u64 (So.srt (sp (lastS (r39_2 (P39_2.mk p.n0 p.x1 s.x6 p.N0)) (S39_2.mk (0 : Int) (IntKind.i64.wrap ((2 : Int) * s.x6)) s.F0_0 s.F0_1)).F0_0 (lastS (r39_2 (P39_2.mk p.n0 p.x1 s.x6 p.N0)) (S39_2.mk (0 : Int) (IntKind.i64.wrap ((2 : Int) * s.x6)) s.F0_0 s.F0_1)).F0_1) (lastS (r39_2 (P39_2.mk p.n0 p.x1 s.x6 p.N0)) (S39_2.mk (0 : Int) (IntKind.i64.wrap ((2 : Int) * s.x6)) s.F0_0 s.F0_1)).x7.toNat p.x1.toNat j).fst, SV.int IntKind.u64 (So.srt (sp (lastS (r39_2 (P39_2.mk p.n0 p.x1 s.x6 p.N0)) (S39_2.mk (0 : Int) (IntKind.i64.wrap ((2 : Int) * s.x6)) s.F0_0 s.F0_1)).F0_0 (lastS (r39_2 (P39_2.mk p.n0 p.x1 s.x6 p.N0)) (S39_2.mk (0 : Int) (IntKind.i64.wrap ((2 : Int) * s.x6)) s.F0_0 s.F0_1)).F0_1) (lastS (r39_2 (P39_2.mk p.n0 p.x1 s.x6 p.N0)) (S39_2.mk (0 : Int) (IntKind.i64.wrap ((2 : Int) * s.x6)) s.F0_0 s.F0_1)).x7.toNat p.x1.toNat j).snd]) i = elC (fun (j : Nat) => [SV.int IntKind.u64 (So.srt (sp (lastS (r39_2 (P39_2.mk p.n0 p.x1 s.x6 p.N0)) (S39_2.mk (0 : Int) (IntKind.i64.wrap ((2 : Int) * s.x6)) s.F0_0 s.F0_1)).F0_0 (lastS (r39_2 (P39_2.mk p.n0 p.x1 s.x6 p.N0)) (S39_2.mk (0 : Int) (IntKind.i64.wrap ((2 : Int) * s.x6)) s.F0_0 s.F0_1)).F0_1) (lastS (r39_2 (P39_2.mk p.n0 p.x1 s.x6 p.N0)) (S39_2.mk (0 : Int) (IntKind.i64.wrap ((2 : Int) * s.x6)) s.F0_0 s.F0_1)).x7.toNat p.x1.toNat j).fst, SV.int IntKind.u64 (So.srt (sp (lastS (r39_2 (P39_2.mk p.n0 p.x1 s.x6 p.N0)) (S39_2.mk (0 : Int) (IntKind.i64.wrap ((2 : Int) * s.x6)) s.F0_0 s.F0_1)).F0_0 (lastS (r39_2 (P39_2.mk p.n0 p.x1 s.x6 p.N0)) (S39_2.mk (0 : Int) (IntKind.i64.wrap ((2 : Int) * s.x6)) s.F0_0 s.F0_1)).F0_1) (lastS (r39_2 (P39_2.mk p.n0 p.x1 s.x6 p.N0)) (S39_2.mk (0 : Int) (IntKind.i64.wrap ((2 : Int) * s.x6)) s.F0_0 s.F0_1)).x7.toNat p.x1.toNat j).snd]) (0:Nat) [Ck.int IntKind.u64, Ck.int IntKind.u64] i
noncomputable def e39_1_10 (p : P39_1) (s : S39_1) : (Int) := IntKind.i64.wrap (s.x6 * (2 : Int))
noncomputable def e39_1_11 (p : P39_1) (s : S39_1) : Nat → (Int) := fun j => (So.srt (sp (lastS (r39_2 (P39_2.mk p.n0 p.x1 s.x6 p.N0)) (S39_2.mk (0 : Int) (IntKind.i64.wrap ((2 : Int) * s.x6)) s.F0_0 s.F0_1)).F0_0 (lastS (r39_2 (P39_2.mk p.n0 p.x1 s.x6 p.N0)) (S39_2.mk (0 : Int) (IntKind.i64.wrap ((2 : Int) * s.x6)) s.F0_0 s.F0_1)).F0_1) (lastS (r39_2 (P39_2.mk p.n0 p.x1 s.x6 p.N0)) (S39_2.mk (0 : Int) (IntKind.i64.wrap ((2 : Int) * s.x6)) s.F0_0 s.F0_1)).x7.toNat p.x1.toNat j).fst
noncomputable def e39_1_12 (p : P39_1) (s : S39_1) : Nat → (Int) := fun j => (So.srt (sp (lastS (r39_2 (P39_2.mk p.n0 p.x1 s.x6 p.N0)) (S39_2.mk (0 : Int) (IntKind.i64.wrap ((2 : Int) * s.x6)) s.F0_0 s.F0_1)).F0_0 (lastS (r39_2 (P39_2.mk p.n0 p.x1 s.x6 p.N0)) (S39_2.mk (0 : Int) (IntKind.i64.wrap ((2 : Int) * s.x6)) s.F0_0 s.F0_1)).F0_1) (lastS (r39_2 (P39_2.mk p.n0 p.x1 s.x6 p.N0)) (S39_2.mk (0 : Int) (IntKind.i64.wrap ((2 : Int) * s.x6)) s.F0_0 s.F0_1)).x7.toNat p.x1.toNat j).snd
noncomputable def e39_1_13 (p : P39_1) (s : S39_1) : (Prop) := (∀ (i : Nat), scpL (0:Nat) ((fun (j : Nat) => [SV.int IntKind.u64 ((lastS (r39_2 (P39_2.mk p.n0 p.x1 s.x6 p.N0)) (S39_2.mk (0 : Int) (IntKind.i64.wrap ((2 : Int) * s.x6)) s.F0_0 s.F0_1)).F0_0 j), SV.int IntKind.u64 ((lastS (r39_2 (P39_2.mk p.n0 p.x1 s.x6 p.N0)) (S39_2.mk (0 : Int) (IntKind.i64.wrap ((2 : Int) * s.x6)) s.F0_0 s.F0_1)).F0_1 j)]) i) = true) ∧ ∀ (i : Nat), i < p.N0 → (fun (j : Nat) => [SV.int IntKind.u64 ((lastS (r39_2 (P39_2.mk p.n0 p.x1 s.x6 p.N0)) (S39_2.mk (0 : Int) (IntKind.i64.wrap ((2 : Int) * s.x6)) s.F0_0 s.F0_1)).F0_0 j), SV.int IntKind.u64 ((lastS (r39_2 (P39_2.mk p.n0 p.x1 s.x6 p.N0)) (S39_2.mk (0 : Int) (IntKind.i64.wrap ((2 : Int) * s.x6)) s.F0_0 s.F0_1)).F0_1 j)]) i = elC (fun (j : Nat) => [SV.int IntKind.u64 ((lastS (r39_2 (P39_2.mk p.n0 p.x1 s.x6 p.N0)) (S39_2.mk (0 : Int) (IntKind.i64.wrap ((2 : Int) * s.x6)) s.F0_0 s.F0_1)).F0_0 j), SV.int IntKind.u64 ((lastS (r39_2 (P39_2.mk p.n0 p.x1 s.x6 p.N0)) (S39_2.mk (0 : Int) (IntKind.i64.wrap ((2 : Int) * s.x6)) s.F0_0 s.F0_1)).F0_1 j)]) (0:Nat) [Ck.int IntKind.u64, Ck.int IntKind.u64] i
noncomputable def e39_1_14 (p : P39_1) (s : S39_1) : (Nat → Int) := (lastS (r39_2 (P39_2.mk p.n0 p.x1 s.x6 p.N0)) (S39_2.mk (0 : Int) (IntKind.i64.wrap ((2 : Int) * s.x6)) s.F0_0 s.F0_1)).F0_0
noncomputable def e39_1_15 (p : P39_1) (s : S39_1) : (Nat → Int) := (lastS (r39_2 (P39_2.mk p.n0 p.x1 s.x6 p.N0)) (S39_2.mk (0 : Int) (IntKind.i64.wrap ((2 : Int) * s.x6)) s.F0_0 s.F0_1)).F0_1
theorem n_e39_1_1 (p : P39_1) (s : S39_1) : e39_1_1 p s := by
  unfold e39_1_1
  first
    | (intros; rfl)
    | (intro i; rfl)
    | (intro i _; rfl)
    | (intro _ i; rfl)
    | (intro _ i _; rfl)
    | (refine ⟨?_, ?_⟩ <;> intro i <;> rfl)
    | (refine ⟨?_, ?_, ?_⟩ <;> intro i <;> rfl)
    | (refine ⟨?_, ?_⟩ <;> intro i _ <;> rfl)
    | (repeat' apply And.intro) <;> first | (intro i; rfl) | (intro i _; rfl) | (intro i h; exact absurd h (Nat.not_lt_zero i)) | (intro i; exact scpL_rowSet (by rfl) (by rfl)) | (intro i; exact scpL_rowEl (by kernel_rfl) _)
    | (intros; (repeat' apply And.intro) <;> intros <;> first | rfl | (exact absurd (by assumption) (Nat.not_lt_zero _)))
    | omega
    | decide
theorem n_e39_1_2 (p : P39_1) (s : S39_1) : e39_1_2 p s := by
  unfold e39_1_2
  first
    | (intros; rfl)
    | (intro i; rfl)
    | (intro i _; rfl)
    | (intro _ i; rfl)
    | (intro _ i _; rfl)
    | (refine ⟨?_, ?_⟩ <;> intro i <;> rfl)
    | (refine ⟨?_, ?_, ?_⟩ <;> intro i <;> rfl)
    | (refine ⟨?_, ?_⟩ <;> intro i _ <;> rfl)
    | (repeat' apply And.intro) <;> first | (intro i; rfl) | (intro i _; rfl) | (intro i h; exact absurd h (Nat.not_lt_zero i)) | (intro i; exact scpL_rowSet (by rfl) (by rfl)) | (intro i; exact scpL_rowEl (by kernel_rfl) _)
    | (intros; (repeat' apply And.intro) <;> intros <;> first | rfl | (exact absurd (by assumption) (Nat.not_lt_zero _)))
    | omega
    | decide
theorem n_e39_1_4 (p : P39_1) (s : S39_1) : e39_1_4 p s := by
  unfold e39_1_4
  first
    | (intros; rfl)
    | (intro i; rfl)
    | (intro i _; rfl)
    | (intro _ i; rfl)
    | (intro _ i _; rfl)
    | (refine ⟨?_, ?_⟩ <;> intro i <;> rfl)
    | (refine ⟨?_, ?_, ?_⟩ <;> intro i <;> rfl)
    | (refine ⟨?_, ?_⟩ <;> intro i _ <;> rfl)
    | (repeat' apply And.intro) <;> first | (intro i; rfl) | (intro i _; rfl) | (intro i h; exact absurd h (Nat.not_lt_zero i)) | (intro i; exact scpL_rowSet (by rfl) (by rfl)) | (intro i; exact scpL_rowEl (by kernel_rfl) _)
    | (intros; (repeat' apply And.intro) <;> intros <;> first | rfl | (exact absurd (by assumption) (Nat.not_lt_zero _)))
    | omega
    | decide
theorem n_e39_1_5 (p : P39_1) (s : S39_1) : e39_1_5 p s := by
  unfold e39_1_5
  first
    | (intros; rfl)
    | (intro i; rfl)
    | (intro i _; rfl)
    | (intro _ i; rfl)
    | (intro _ i _; rfl)
    | (refine ⟨?_, ?_⟩ <;> intro i <;> rfl)
    | (refine ⟨?_, ?_, ?_⟩ <;> intro i <;> rfl)
    | (refine ⟨?_, ?_⟩ <;> intro i _ <;> rfl)
    | (repeat' apply And.intro) <;> first | (intro i; rfl) | (intro i _; rfl) | (intro i h; exact absurd h (Nat.not_lt_zero i)) | (intro i; exact scpL_rowSet (by rfl) (by rfl)) | (intro i; exact scpL_rowEl (by kernel_rfl) _)
    | (intros; (repeat' apply And.intro) <;> intros <;> first | rfl | (exact absurd (by assumption) (Nat.not_lt_zero _)))
    | omega
    | decide
theorem n_e39_1_7 (p : P39_1) (s : S39_1) : e39_1_7 p s := by
  unfold e39_1_7
  first
    | (intros; rfl)
    | (intro i; rfl)
    | (intro i _; rfl)
    | (intro _ i; rfl)
    | (intro _ i _; rfl)
    | (refine ⟨?_, ?_⟩ <;> intro i <;> rfl)
    | (refine ⟨?_, ?_, ?_⟩ <;> intro i <;> rfl)
    | (refine ⟨?_, ?_⟩ <;> intro i _ <;> rfl)
    | (repeat' apply And.intro) <;> first | (intro i; rfl) | (intro i _; rfl) | (intro i h; exact absurd h (Nat.not_lt_zero i)) | (intro i; exact scpL_rowSet (by rfl) (by rfl)) | (intro i; exact scpL_rowEl (by kernel_rfl) _)
    | (intros; (repeat' apply And.intro) <;> intros <;> first | rfl | (exact absurd (by assumption) (Nat.not_lt_zero _)))
    | omega
    | decide
theorem n_e39_1_9 (p : P39_1) (s : S39_1) : e39_1_9 p s := by
  unfold e39_1_9
  first
    | (intros; rfl)
    | (intro i; rfl)
    | (intro i _; rfl)
    | (intro _ i; rfl)
    | (intro _ i _; rfl)
    | (refine ⟨?_, ?_⟩ <;> intro i <;> rfl)
    | (refine ⟨?_, ?_, ?_⟩ <;> intro i <;> rfl)
    | (refine ⟨?_, ?_⟩ <;> intro i _ <;> rfl)
    | (repeat' apply And.intro) <;> first | (intro i; rfl) | (intro i _; rfl) | (intro i h; exact absurd h (Nat.not_lt_zero i)) | (intro i; exact scpL_rowSet (by rfl) (by rfl)) | (intro i; exact scpL_rowEl (by kernel_rfl) _)
    | (intros; (repeat' apply And.intro) <;> intros <;> first | rfl | (exact absurd (by assumption) (Nat.not_lt_zero _)))
    | omega
    | decide
theorem n_e39_1_13 (p : P39_1) (s : S39_1) : e39_1_13 p s := by
  unfold e39_1_13
  first
    | (intros; rfl)
    | (intro i; rfl)
    | (intro i _; rfl)
    | (intro _ i; rfl)
    | (intro _ i _; rfl)
    | (refine ⟨?_, ?_⟩ <;> intro i <;> rfl)
    | (refine ⟨?_, ?_, ?_⟩ <;> intro i <;> rfl)
    | (refine ⟨?_, ?_⟩ <;> intro i _ <;> rfl)
    | (repeat' apply And.intro) <;> first | (intro i; rfl) | (intro i _; rfl) | (intro i h; exact absurd h (Nat.not_lt_zero i)) | (intro i; exact scpL_rowSet (by rfl) (by rfl)) | (intro i; exact scpL_rowEl (by kernel_rfl) _)
    | (intros; (repeat' apply And.intro) <;> intros <;> first | rfl | (exact absurd (by assumption) (Nat.not_lt_zero _)))
    | omega
    | decide
noncomputable def rf39_1 (p : P39_1) (s : S39_1) : Tr (Rs th.R S39_1) := (Tr.ite (e39_1_0 p s) (Tr.need (e39_1_1 p s) (Tr.leaf (Rs.out (Ex.exit ((2 : Nat))) (none :: (none :: (none :: (none :: (none :: (none :: (none :: (none :: (none :: (none :: (none :: (none :: (none :: (none :: (none :: (none :: (none :: (none :: (none :: (none :: (none :: (none :: (none :: (none :: (none :: (none :: (none :: (none :: (none :: (none :: (none :: (none :: (none :: (none :: (none :: (none :: (none :: (none :: (none :: (none :: (none :: (none :: (none :: (none :: (none :: (none :: (none :: (none :: (none :: (none :: (none :: (none :: (none :: (none :: (none :: (none :: (none :: (none :: (none :: (none :: (none :: (none :: (none :: []))))))))))))))))))))))))))))))))))))))))))))))))))))))))))))))) (List.cons (HO.row ((27 : Nat)) ((2 : Nat)) (p.N0) (fun j => (List.cons (SV.int (IntKind.u64) (s.F0_0 j)) (List.cons (SV.int (IntKind.u64) (s.F0_1 j)) [])))) [])))) (Tr.need (e39_1_2 p s) (Tr.need (e39_1_3 p s) (Tr.need (e39_1_4 p s) (Tr.need (e39_1_5 p s) (Tr.need (e39_1_6 p s) (Tr.need (e39_1_7 p s) (Tr.ite (e39_1_8 p s) (Tr.need (e39_1_9 p s) (Tr.leaf (Rs.on (S39_1.mk ((e39_1_10 p s)) ((fun j => (e39_1_11 p s j))) ((fun j => (e39_1_12 p s j))))))) (Tr.need (e39_1_13 p s) (Tr.leaf (Rs.on (S39_1.mk ((e39_1_10 p s)) ((e39_1_14 p s)) ((e39_1_15 p s))))))))))))))
noncomputable def r39_1 (p : P39_1) (s : S39_1) : Tr (Rs th.R S39_1) := (Tr.ite (e39_1_0 p s) (Tr.leaf (Rs.out (Ex.exit ((2 : Nat))) (none :: (none :: (none :: (none :: (none :: (none :: (none :: (none :: (none :: (none :: (none :: (none :: (none :: (none :: (none :: (none :: (none :: (none :: (none :: (none :: (none :: (none :: (none :: (none :: (none :: (none :: (none :: (none :: (none :: (none :: (none :: (none :: (none :: (none :: (none :: (none :: (none :: (none :: (none :: (none :: (none :: (none :: (none :: (none :: (none :: (none :: (none :: (none :: (none :: (none :: (none :: (none :: (none :: (none :: (none :: (none :: (none :: (none :: (none :: (none :: (none :: (none :: (none :: []))))))))))))))))))))))))))))))))))))))))))))))))))))))))))))))) (List.cons (HO.row ((27 : Nat)) ((2 : Nat)) (p.N0) (fun j => (List.cons (SV.int (IntKind.u64) (s.F0_0 j)) (List.cons (SV.int (IntKind.u64) (s.F0_1 j)) [])))) []))) (Tr.need (e39_1_3 p s) (Tr.need (e39_1_6 p s) (Tr.ite (e39_1_8 p s) (Tr.leaf (Rs.on (S39_1.mk ((e39_1_10 p s)) ((fun j => (e39_1_11 p s j))) ((fun j => (e39_1_12 p s j)))))) (Tr.leaf (Rs.on (S39_1.mk ((e39_1_10 p s)) ((e39_1_14 p s)) ((e39_1_15 p s)))))))))
noncomputable def E39_1 : St th.R → Out th := evCode th Try.prog (auto th Try.prog nice44n [] 20) (autoH [(9, L39_2)] [] [] [999998] : Hints th) (lpAt Try.prog 39 1)
theorem ok39_1 : LoopsOk th Try.prog (autoH [(9, L39_2)] [] [] [999998] : Hints th) (lpAt Try.prog 39 1) := autoH_ok (bs := [lpAt Try.prog 39 2]) (by kernel_rfl) fun b hb L hL => by
  simp only [List.mem_cons, List.not_mem_nil, or_false] at hb
  rcases hb with rfl
  · have e : lookL [(9, L39_2)] (firstReg (lpAt Try.prog 39 2)) = some L39_2 := by kernel_rfl
    rw [e] at hL; cases hL
    exact ls39_2
theorem B39_1 : CodeSound th Try.prog (lpAt Try.prog 39 1) E39_1 := evCode_sound (T := th) (P := Try.prog) (tbl := (auto th Try.prog nice44n [] 20)) (auto_sound (nice := nice44n) (us := []) nok44n 20) (autoH [(9, L39_2)] [] [] [999998] : Hints th) _ ok39_1
noncomputable def L39_1 : St th.R → Out th := loopL d39_1 ofV39_1 r39_1
theorem h1_39_1 (p : P39_1) (s : S39_1) : bld d39_1.tm (toV39_1 p s) = some (I39_1 p s) := by kernel_rfl
theorem h2_39_1 (l : List (Vl th.R)) (p : P39_1) (s : S39_1) (h : ofV39_1 l = some (p, s)) : l = toV39_1 p s := by
  unfold ofV39_1 at h
  split at h
  · cases h; rfl
  · cases h
theorem h3_39_1 (p : P39_1) (s : S39_1) : cvE d39_1 (E39_1 (I39_1 p s)) = some ((rf39_1 p s).map (Rs.map (toV39_1 p))) := by kernel_rfl
theorem h3g_39_1 (p : P39_1) (s : S39_1) : (rf39_1 p s).get = (r39_1 p s).get := by kernel_rfl
theorem h4_39_1 (p : P39_1) (s s1 : S39_1) : outH d39_1.dirt d39_1.n0 (r39_1 p s) = repH (maskH d39_1.dirt 0 d39_1.n0 (I39_1 p s1).heap) (r39_1 p s) := by kernel_rfl
theorem ls39_1 : CodeSound th Try.prog (.loop (lpAt Try.prog 39 1)) L39_1 := loopL_sound B39_1 d39_1 I39_1 toV39_1 (by kernel_rfl) h1_39_1 h2_39_1
  (fun p s => ⟨(rf39_1 p s).map (Rs.map (toV39_1 p)), h3_39_1 p s, fun h => by
    rw [Tr.map_ok]
    unfold r39_1 at h; unfold rf39_1
    simp only [Tr.ok, n_e39_1_1, n_e39_1_2, n_e39_1_4, n_e39_1_5, n_e39_1_7, n_e39_1_9, n_e39_1_13, true_and, and_true, forall_const, implies_true] at h ⊢
    try exact h, by rw [Tr.map_get, h3g_39_1 p s]⟩) h4_39_1
theorem ok39 : LoopsOk th Try.prog (autoH [(2, L39_0), (7, L39_1)] [] [] [999998] : Hints th) (bodyOf Try.prog 39) := autoH_ok (bs := [lpAt Try.prog 39 0, lpAt Try.prog 39 1, lpAt Try.prog 39 2]) (by kernel_rfl) fun b hb L hL => by
  simp only [List.mem_cons, List.not_mem_nil, or_false] at hb
  rcases hb with rfl | rfl | rfl
  · have e : lookL [(2, L39_0), (7, L39_1)] (firstReg (lpAt Try.prog 39 0)) = some L39_0 := by kernel_rfl
    rw [e] at hL; cases hL
    exact ls39_0
  · have e : lookL [(2, L39_0), (7, L39_1)] (firstReg (lpAt Try.prog 39 1)) = some L39_1 := by kernel_rfl
    rw [e] at hL; cases hL
    exact ls39_1
  · have e : lookL [(2, L39_0), (7, L39_1)] (firstReg (lpAt Try.prog 39 2)) = (none : Option (St th.R → Out th)) := by kernel_rfl
    rw [e] at hL; cases hL
noncomputable def f39_0 (v : V39) : (Prop) := ∀ (i : Nat), i < v.M → (fun (j : Nat) => [SV.int IntKind.u64 (v.F j), SV.int IntKind.u64 (v.G j)]) i = elC (fun (j : Nat) => [SV.int IntKind.u64 (v.F j), SV.int IntKind.u64 (v.G j)]) (0:Nat) [Ck.int IntKind.u64, Ck.int IntKind.u64] i
noncomputable def f39_1 (v : V39) : (Prop) := LT (r39_0 (P39_0.mk v.L v.n (20 : Int) v.M)) (S39_0.mk (0 : Int) (20 : Int) v.F v.G)
noncomputable def f39z0 (v : V39) : S39_0 := lastS (r39_0 (P39_0.mk v.L v.n (20 : Int) v.M)) (S39_0.mk (0 : Int) (20 : Int) v.F v.G)
noncomputable def f39_2 (v : V39) : (Prop) := ∀ (i : Nat), scpL (0:Nat) ((fun (j : Nat) => [SV.int IntKind.u64 ((f39z0 v).F0_0 j), SV.int IntKind.u64 ((f39z0 v).F0_1 j)]) i) = true
noncomputable def f39_3 (v : V39) : (Prop) := ∀ (i : Nat), i < v.M → (fun (j : Nat) => [SV.int IntKind.u64 ((f39z0 v).F0_0 j), SV.int IntKind.u64 ((f39z0 v).F0_1 j)]) i = elC (fun (j : Nat) => [SV.int IntKind.u64 ((f39z0 v).F0_0 j), SV.int IntKind.u64 ((f39z0 v).F0_1 j)]) (0:Nat) [Ck.int IntKind.u64, Ck.int IntKind.u64] i
noncomputable def f39_4 (v : V39) : (Prop) := pre43 (V43.mk v.L (f39z0 v).x7 v.n v.M (f39z0 v).F0_0 (f39z0 v).F0_1)
noncomputable def f39_5 (v : V39) : (Prop) := ∀ (i : Nat), scpL (0:Nat) ((fun (j : Nat) => [SV.int IntKind.u64 (So.srt (sp (f39z0 v).F0_0 (f39z0 v).F0_1) (f39z0 v).x7.toNat v.n.toNat j).fst, SV.int IntKind.u64 (So.srt (sp (f39z0 v).F0_0 (f39z0 v).F0_1) (f39z0 v).x7.toNat v.n.toNat j).snd]) i) = true
noncomputable def f39_6 (v : V39) : (Prop) := ∀ (i : Nat), i < v.M → (fun (j : Nat) => [SV.int IntKind.u64 (So.srt (sp (f39z0 v).F0_0 (f39z0 v).F0_1) (f39z0 v).x7.toNat v.n.toNat j).fst, SV.int IntKind.u64 (So.srt (sp (f39z0 v).F0_0 (f39z0 v).F0_1) (f39z0 v).x7.toNat v.n.toNat j).snd]) i = elC (fun (j : Nat) => [SV.int IntKind.u64 (So.srt (sp (f39z0 v).F0_0 (f39z0 v).F0_1) (f39z0 v).x7.toNat v.n.toNat j).fst, SV.int IntKind.u64 (So.srt (sp (f39z0 v).F0_0 (f39z0 v).F0_1) (f39z0 v).x7.toNat v.n.toNat j).snd]) (0:Nat) [Ck.int IntKind.u64, Ck.int IntKind.u64] i
noncomputable def f39_7 (v : V39) : (Prop) := LT (r39_1 (P39_1.mk v.L v.n v.M)) (S39_1.mk (20 : Int) (fun (j : Nat) => (So.srt (sp (f39z0 v).F0_0 (f39z0 v).F0_1) (f39z0 v).x7.toNat v.n.toNat j).fst) fun (j : Nat) => (So.srt (sp (f39z0 v).F0_0 (f39z0 v).F0_1) (f39z0 v).x7.toNat v.n.toNat j).snd)
noncomputable def f39z1 (v : V39) : S39_1 := lastS (r39_1 (P39_1.mk v.L v.n v.M)) (S39_1.mk (20 : Int) (fun (j : Nat) => (So.srt (sp (f39z0 v).F0_0 (f39z0 v).F0_1) (f39z0 v).x7.toNat v.n.toNat j).fst) fun (j : Nat) => (So.srt (sp (f39z0 v).F0_0 (f39z0 v).F0_1) (f39z0 v).x7.toNat v.n.toNat j).snd)
noncomputable def f39_8 (v : V39) : (Prop) := (∀ (i : Nat), scpL (1 : Nat) ((fun (j : Nat) => [SV.int IntKind.u64 ((f39z1 v).F0_0 j), SV.int IntKind.u64 ((f39z1 v).F0_1 j)]) i) = true) ∧ (∀ (i : Nat), scpL (1 : Nat) ((fun (j : Nat) => [SV.int IntKind.u64 ((f39z1 v).F0_0 j), SV.int IntKind.u64 ((f39z1 v).F0_1 j)]) i) = true) ∧ ∀ (i : Nat), scpL (1 : Nat) ((fun (j : Nat) => [SV.int IntKind.u64 ((f39z1 v).F0_0 j), SV.int IntKind.u64 ((f39z1 v).F0_1 j)]) i) = true
noncomputable def f39_9 (v : V39) : Nat → (Int) := fun j => (f39z1 v).F0_0 j
noncomputable def f39_10 (v : V39) : Nat → (Int) := fun j => (f39z1 v).F0_1 j
theorem n_f39_0 (v : V39) : f39_0 v := by
  unfold f39_0
  first
    | (intros; rfl)
    | (intro i; rfl)
    | (intro i _; rfl)
    | (intro _ i; rfl)
    | (intro _ i _; rfl)
    | (refine ⟨?_, ?_⟩ <;> intro i <;> rfl)
    | (refine ⟨?_, ?_, ?_⟩ <;> intro i <;> rfl)
    | (refine ⟨?_, ?_⟩ <;> intro i _ <;> rfl)
    | (repeat' apply And.intro) <;> first | (intro i; rfl) | (intro i _; rfl) | (intro i h; exact absurd h (Nat.not_lt_zero i)) | (intro i; exact scpL_rowSet (by rfl) (by rfl)) | (intro i; exact scpL_rowEl (by kernel_rfl) _)
    | (intros; (repeat' apply And.intro) <;> intros <;> first | rfl | (exact absurd (by assumption) (Nat.not_lt_zero _)))
    | omega
    | decide
theorem n_f39_2 (v : V39) : f39_2 v := by
  unfold f39_2
  first
    | (intros; rfl)
    | (intro i; rfl)
    | (intro i _; rfl)
    | (intro _ i; rfl)
    | (intro _ i _; rfl)
    | (refine ⟨?_, ?_⟩ <;> intro i <;> rfl)
    | (refine ⟨?_, ?_, ?_⟩ <;> intro i <;> rfl)
    | (refine ⟨?_, ?_⟩ <;> intro i _ <;> rfl)
    | (repeat' apply And.intro) <;> first | (intro i; rfl) | (intro i _; rfl) | (intro i h; exact absurd h (Nat.not_lt_zero i)) | (intro i; exact scpL_rowSet (by rfl) (by rfl)) | (intro i; exact scpL_rowEl (by kernel_rfl) _)
    | (intros; (repeat' apply And.intro) <;> intros <;> first | rfl | (exact absurd (by assumption) (Nat.not_lt_zero _)))
    | omega
    | decide
theorem n_f39_3 (v : V39) : f39_3 v := by
  unfold f39_3
  first
    | (intros; rfl)
    | (intro i; rfl)
    | (intro i _; rfl)
    | (intro _ i; rfl)
    | (intro _ i _; rfl)
    | (refine ⟨?_, ?_⟩ <;> intro i <;> rfl)
    | (refine ⟨?_, ?_, ?_⟩ <;> intro i <;> rfl)
    | (refine ⟨?_, ?_⟩ <;> intro i _ <;> rfl)
    | (repeat' apply And.intro) <;> first | (intro i; rfl) | (intro i _; rfl) | (intro i h; exact absurd h (Nat.not_lt_zero i)) | (intro i; exact scpL_rowSet (by rfl) (by rfl)) | (intro i; exact scpL_rowEl (by kernel_rfl) _)
    | (intros; (repeat' apply And.intro) <;> intros <;> first | rfl | (exact absurd (by assumption) (Nat.not_lt_zero _)))
    | omega
    | decide
theorem n_f39_5 (v : V39) : f39_5 v := by
  unfold f39_5
  first
    | (intros; rfl)
    | (intro i; rfl)
    | (intro i _; rfl)
    | (intro _ i; rfl)
    | (intro _ i _; rfl)
    | (refine ⟨?_, ?_⟩ <;> intro i <;> rfl)
    | (refine ⟨?_, ?_, ?_⟩ <;> intro i <;> rfl)
    | (refine ⟨?_, ?_⟩ <;> intro i _ <;> rfl)
    | (repeat' apply And.intro) <;> first | (intro i; rfl) | (intro i _; rfl) | (intro i h; exact absurd h (Nat.not_lt_zero i)) | (intro i; exact scpL_rowSet (by rfl) (by rfl)) | (intro i; exact scpL_rowEl (by kernel_rfl) _)
    | (intros; (repeat' apply And.intro) <;> intros <;> first | rfl | (exact absurd (by assumption) (Nat.not_lt_zero _)))
    | omega
    | decide
theorem n_f39_6 (v : V39) : f39_6 v := by
  unfold f39_6
  first
    | (intros; rfl)
    | (intro i; rfl)
    | (intro i _; rfl)
    | (intro _ i; rfl)
    | (intro _ i _; rfl)
    | (refine ⟨?_, ?_⟩ <;> intro i <;> rfl)
    | (refine ⟨?_, ?_, ?_⟩ <;> intro i <;> rfl)
    | (refine ⟨?_, ?_⟩ <;> intro i _ <;> rfl)
    | (repeat' apply And.intro) <;> first | (intro i; rfl) | (intro i _; rfl) | (intro i h; exact absurd h (Nat.not_lt_zero i)) | (intro i; exact scpL_rowSet (by rfl) (by rfl)) | (intro i; exact scpL_rowEl (by kernel_rfl) _)
    | (intros; (repeat' apply And.intro) <;> intros <;> first | rfl | (exact absurd (by assumption) (Nat.not_lt_zero _)))
    | omega
    | decide
theorem n_f39_8 (v : V39) : f39_8 v := by
  unfold f39_8
  first
    | (intros; rfl)
    | (intro i; rfl)
    | (intro i _; rfl)
    | (intro _ i; rfl)
    | (intro _ i _; rfl)
    | (refine ⟨?_, ?_⟩ <;> intro i <;> rfl)
    | (refine ⟨?_, ?_, ?_⟩ <;> intro i <;> rfl)
    | (refine ⟨?_, ?_⟩ <;> intro i _ <;> rfl)
    | (repeat' apply And.intro) <;> first | (intro i; rfl) | (intro i _; rfl) | (intro i h; exact absurd h (Nat.not_lt_zero i)) | (intro i; exact scpL_rowSet (by rfl) (by rfl)) | (intro i; exact scpL_rowEl (by kernel_rfl) _)
    | (intros; (repeat' apply And.intro) <;> intros <;> first | rfl | (exact absurd (by assumption) (Nat.not_lt_zero _)))
    | omega
    | decide
noncomputable def ff39 (v : V39) : Tr (Fin th.R) := (Tr.need (f39_0 v) (Tr.need (f39_1 v) (Tr.need (f39_2 v) (Tr.need (f39_3 v) (Tr.need (f39_4 v) (Tr.need (f39_5 v) (Tr.need (f39_6 v) (Tr.need (f39_7 v) (Tr.need (f39_8 v) (Tr.leaf (Prod.mk (SV.tup []) (Prod.mk (List.cons (HO.row ((27 : Nat)) ((2 : Nat)) (v.M) (fun j => (List.cons (SV.int (IntKind.u64) (f39_9 v j)) (List.cons (SV.int (IntKind.u64) (f39_10 v j)) [])))) []) (List.cons ((0:Nat)) (List.cons ((0:Nat)) (List.cons ((0:Nat)) [])))))))))))))))
noncomputable def f39 (v : V39) : Tr (Fin th.R) := (Tr.need (f39_1 v) (Tr.need (f39_4 v) (Tr.need (f39_7 v) (Tr.leaf (Prod.mk (SV.tup []) (Prod.mk (List.cons (HO.row ((27 : Nat)) ((2 : Nat)) (v.M) (fun j => (List.cons (SV.int (IntKind.u64) (f39_9 v j)) (List.cons (SV.int (IntKind.u64) (f39_10 v j)) [])))) []) ([0])))))))
noncomputable def C39 : CF th.R := fnC d39 ofV39 (f39 )
theorem q39 (v : V39) : (evFn th Try.prog (auto th Try.prog nice44n [] 20) (autoH [(2, L39_0), (7, L39_1)] [] [] [999998] : Hints th) 39) (A39 v) (H39 v) = some (ff39 v) := by kernel_rfl
theorem qg39 (v : V39) : ((ff39 v).map (setD [0])).get = (f39 v).get := by kernel_rfl
theorem qd39 (v : V39) : allD 1 [0] (ff39 v) = true := by kernel_rfl
theorem s39 : Sound Try.prog th 39 (C39 ) := fnC_sound (evFn_sound' (T := th) (P := Try.prog) (tbl := (auto th Try.prog nice44n [] 20)) (auto_sound (nice := nice44n) (us := []) nok44n 20) (H := (autoH [(2, L39_0), (7, L39_1)] [] [] [999998] : Hints th)) (k := 39) (fnLoops ok39)) d39 A39 H39 toV39 (by kernel_rfl) (fun v => by kernel_rfl)
  (fun l v h => by
    unfold ofV39 at h
    split at h
    · cases h; rfl
    · cases h)
  [0] (fun v => ⟨ff39 v, q39 v, fun h => by
    unfold f39 at h; unfold ff39
    simp only [Tr.ok, n_f39_0, n_f39_2, n_f39_3, n_f39_5, n_f39_6, n_f39_8, true_and, and_true, forall_const, implies_true] at h ⊢
    try exact h, qg39 v, qd39 v⟩)
theorem qdd39 (v : V39) : (f39 v).get.2.2 = [0] := by
  rw [← qg39, Tr.map_get]; rfl
noncomputable def nice39 : List (Nat × CF th.R) := (39, lift C39) :: nice44n
theorem nok39 : NiceOk Try.prog th nice39 := ⟨lift_sound s39, nok44n⟩
end Go.Sx.S

section
namespace Go.Sx.So
/-! Blocks -/
inductive Blk (B n : Nat) (E : Nat → Sp) : Nat → Prop
  | done {a : Nat} : n ≤ a → Blk B n E a
  | step {a : Nat} : SortedIn a (min (a + B) n) E → Blk B n E (a + B) → Blk B n E a
inductive PB (B : Nat) (E : Nat → Sp) : Nat → Prop
  | zero : PB B E 0
  | snoc {a : Nat} : PB B E a → SortedIn a (a + B) E → PB B E (a + B)
theorem SortedIn.congr {E F : Nat → Sp} {a b : Nat} (h : SortedIn a b E) (e : ∀ j, a ≤ j → j < b → F j = E j) : SortedIn a b F := fun i j h1 h2 h3 => by
  rw [e i h1 (by omega), e j (by omega) h3]; exact h i j h1 h2 h3
theorem SortedIn.empty {E : Nat → Sp} {a b : Nat} (h : b ≤ a) : SortedIn a b E := fun i j h1 h2 h3 => by omega
theorem Blk.congr {B n : Nat} {E F : Nat → Sp} {a : Nat} (h : Blk B n E a) (e : ∀ j, a ≤ j → F j = E j) : Blk B n F a := by
  induction h with
  | done h => exact .done h
  | step h _ ih => exact .step (h.congr fun j h1 _ => e j h1) (ih fun j hj => e j (by omega))
theorem PB.congr {B : Nat} {E F : Nat → Sp} {a : Nat} (h : PB B E a) (e : ∀ j, j < a → F j = E j) : PB B F a := by
  induction h with
  | zero => exact .zero
  | snoc _ h ih => exact .snoc (ih fun j hj => e j (by omega)) (h.congr fun j _ h2 => e j (by omega))
theorem PB.blk {B n : Nat} {E : Nat → Sp} {a : Nat} (h : PB B E a) : a ≤ n → Blk B n E a → Blk B n E 0 := by
  induction h with
  | zero => exact fun _ k => k
  | @snoc a _ h ih => exact fun hn k => ih (by omega) (.step (by rw [Nat.min_eq_left hn]; exact h) k)
theorem Blk.head {B n : Nat} {E : Nat → Sp} {a : Nat} (h : Blk B n E a) : SortedIn a (min (a + B) n) E := by
  cases h with
  | done h => exact .empty (by omega)
  | step h _ => exact h
theorem Blk.tail {B n : Nat} {E : Nat → Sp} {a : Nat} (h : Blk B n E a) : Blk B n E (a + B) := by
  cases h with
  | done h => exact .done (by omega)
  | step _ h => exact h
theorem srt_out {E : Nat → Sp} {a b j : Nat} (h : ¬ (a ≤ j ∧ j < b)) : srt E a b j = E j := (srt_perm E a b).out j h
end Go.Sx.So

end

namespace Go.Sx.S
open Go Go.Sx Go.Proofs Go.RowKit So
def pre39 (v : V39) : Prop := v.n = v.L ∧ v.L ≤ v.M ∧ v.L < 1152921504606846976
noncomputable def f39n (v : V39) : Tr (Fin th.R) := .need (pre39 v) (.leaf (.tup [], [rowP v.M (srt (sp v.F v.G) 0 v.L)], [0]))
theorem l39_0 {L M : Nat} {F G : Nat → Int} (h1 : L ≤ M) (h2 : L < 1152921504606846976) :
    LT (r39_0 (P39_0.mk L L 20 M)) (S39_0.mk 0 20 F G) ∧ (fun s : S39_0 => ∃ a : Nat, s.x7 = a ∧ a ≤ L ∧ L < a + 20 ∧ PB 20 (sp s.F0_0 s.F0_1) a ∧ PermIn 0 L (sp F G) (sp s.F0_0 s.F0_1)) (lastS (r39_0 (P39_0.mk L L 20 M)) (S39_0.mk 0 20 F G)) := by
  refine LT.post (fun s : S39_0 => ∃ a : Nat, s.x7 = a ∧ s.x8 = (a + 20 : Nat) ∧ a ≤ L ∧ PB 20 (sp s.F0_0 s.F0_1) a ∧ PermIn 0 L (sp F G) (sp s.F0_0 s.F0_1)) (fun s : S39_0 => ∃ a : Nat, s.x7 = a ∧ a ≤ L ∧ L < a + 20 ∧ PB 20 (sp s.F0_0 s.F0_1) a ∧ PermIn 0 L (sp F G) (sp s.F0_0 s.F0_1)) (fun s : S39_0 => (L - s.x7).toNat) ?_ ?_
  rotate_left
  · exact ⟨0, rfl, rfl, Nat.zero_le _, .zero, .refl _ _ _⟩
  rintro ⟨x, y, F', G'⟩ ⟨a, g1, g2, g3, g4, g5⟩
  simp only at g1 g2 g4 g5
  subst g1 g2
  have w1 : IntKind.i64.wrap (((a + 20 : Nat) : Int) + 20) = ((a + 20 + 20 : Nat) : Int) := by rw [wi (by omega) (by omega)]; omega
  simp only [r39_0, e39_0_0, e39_0_3, e39_0_6, Tr.ok, Tr.get, w1]
  by_cases hc : a + 20 ≤ L
  · rw [show cnd (decide (((a + 20 : Nat) : Int) ≤ L)) false true = false from by rw [decide_eq_true (by omega)]; rfl]
    refine ⟨⟨(fun e => by cases e), fun _ => ⟨⟨by simp only; omega, by simp only; omega, by simp only; omega, h1, by simp only; omega⟩, trivial⟩⟩, .inr ⟨_, rfl, ⟨a + 20, rfl, rfl, hc, ?_, ?_⟩, by simp only; omega⟩⟩
    · refine .snoc (PB.congr g4 fun j hj => ?_) ?_
      · simp only [sp, e39_0_7, e39_0_8, Int.toNat_natCast]
        exact congrFun (f := srt (sp F' G') a (a + 20)) (g := srt (sp F' G') a (a + 20)) rfl j ▸ srt_out (E := sp F' G') (by omega)
      · exact srt_sorted (sp F' G') a (a + 20)
    · exact g5.trans ((srt_perm (sp F' G') a (a + 20)).mono (Nat.zero_le _) (by omega) hc)
  · rw [show cnd (decide (((a + 20 : Nat) : Int) ≤ L)) false true = true from by rw [decide_eq_false (by omega)]; rfl]
    exact ⟨⟨fun _ => trivial, (fun e => by cases e)⟩, .inl ⟨⟨_, _, _, rfl⟩, a, rfl, g3, by omega, g4, g5⟩⟩
theorem l39_2 {L M B : Nat} {F G : Nat → Int} (h1 : L ≤ M) (h2 : L < 1152921504606846976) (hB : 1 ≤ B) (hBL : B < L) (hb : Blk B L (sp F G) 0) :
    LT (r39_2 (P39_2.mk L L B M)) (S39_2.mk 0 (2 * B : Nat) F G) ∧ (fun s : S39_2 => ∃ a : Nat, s.x7 = a ∧ a ≤ L ∧ L < a + 2 * B ∧ PB (2 * B) (sp s.F0_0 s.F0_1) a ∧ Blk B L (sp s.F0_0 s.F0_1) a ∧ PermIn 0 L (sp F G) (sp s.F0_0 s.F0_1)) (lastS (r39_2 (P39_2.mk L L B M)) (S39_2.mk 0 (2 * B : Nat) F G)) := by
  refine LT.post (fun s : S39_2 => ∃ a : Nat, s.x7 = a ∧ s.x8 = (a + 2 * B : Nat) ∧ a ≤ L ∧ PB (2 * B) (sp s.F0_0 s.F0_1) a ∧ Blk B L (sp s.F0_0 s.F0_1) a ∧ PermIn 0 L (sp F G) (sp s.F0_0 s.F0_1)) (fun s : S39_2 => ∃ a : Nat, s.x7 = a ∧ a ≤ L ∧ L < a + 2 * B ∧ PB (2 * B) (sp s.F0_0 s.F0_1) a ∧ Blk B L (sp s.F0_0 s.F0_1) a ∧ PermIn 0 L (sp F G) (sp s.F0_0 s.F0_1)) (fun s : S39_2 => (L - s.x7).toNat) ?_ ?_
  rotate_left
  · exact ⟨0, rfl, by simp, Nat.zero_le _, .zero, hb, .refl _ _ _⟩
  rintro ⟨x, y, F', G'⟩ ⟨a, g1, g2, g3, g4, g5, g6⟩
  simp only at g1 g2 g4 g5 g6
  subst g1 g2
  have w0 : IntKind.i64.wrap ((2 : Int) * B) = ((2 * B : Nat) : Int) := by rw [wi (by omega) (by omega)]; omega
  have w1 : IntKind.i64.wrap (((a + 2 * B : Nat) : Int) + ((2 * B : Nat) : Int)) = ((a + 2 * B + 2 * B : Nat) : Int) := by rw [wi (by omega) (by omega)]; omega
  have w2 : IntKind.i64.wrap ((a : Int) + B) = ((a + B : Nat) : Int) := by rw [wi (by omega) (by omega)]; omega
  simp only [r39_2, e39_2_0, e39_2_3, e39_2_6, Tr.ok, Tr.get, w0, w1, w2]
  by_cases hc : a + 2 * B ≤ L
  · rw [show cnd (decide (((a + 2 * B : Nat) : Int) ≤ L)) false true = false from by rw [decide_eq_true (by omega)]; rfl]
    have s1 := g5.head
    rw [Nat.min_eq_left (by omega)] at s1
    have s2 := g5.tail.head
    rw [Nat.min_eq_left (by omega), show a + B + B = a + 2 * B by omega] at s2
    have s3 := g5.tail.tail
    rw [show a + B + B = a + 2 * B by omega] at s3
    refine ⟨⟨(fun e => by cases e), fun _ => ⟨⟨by simp only; omega, by simp only; omega, by simp only; omega, by simp only; omega, h1, by simp only; omega, s1, s2⟩, trivial⟩⟩, .inr ⟨_, rfl, ⟨a + 2 * B, rfl, rfl, hc, ?_, ?_, ?_⟩, by simp only; omega⟩⟩
    · exact .snoc (PB.congr g4 fun j hj => srt_out (E := sp F' G') (a := a) (b := a + 2 * B) (by omega)) (srt_sorted (sp F' G') a (a + 2 * B))
    · exact s3.congr fun j hj => srt_out (E := sp F' G') (a := a) (b := a + 2 * B) (by omega)
    · exact g6.trans ((srt_perm (sp F' G') a (a + 2 * B)).mono (Nat.zero_le _) (by omega) hc)
  · rw [show cnd (decide (((a + 2 * B : Nat) : Int) ≤ L)) false true = true from by rw [decide_eq_false (by omega)]; rfl]
    exact ⟨⟨fun _ => trivial, (fun e => by cases e)⟩, .inl ⟨⟨_, _, _, rfl⟩, a, rfl, g3, by omega, g4, g5, g6⟩⟩
theorem l39_1 {L M : Nat} {F G : Nat → Int} (h1 : L ≤ M) (h2 : L < 1152921504606846976) (hb : Blk 20 L (sp F G) 0) :
    LT (r39_1 (P39_1.mk L L M)) (S39_1.mk 20 F G) ∧ (fun s : S39_1 => SortedIn 0 L (sp s.F0_0 s.F0_1) ∧ PermIn 0 L (sp F G) (sp s.F0_0 s.F0_1)) (lastS (r39_1 (P39_1.mk L L M)) (S39_1.mk 20 F G)) := by
  refine LT.post (fun s : S39_1 => ∃ B : Nat, s.x6 = B ∧ 1 ≤ B ∧ B ≤ 2 * L + 20 ∧ Blk B L (sp s.F0_0 s.F0_1) 0 ∧ PermIn 0 L (sp F G) (sp s.F0_0 s.F0_1)) (fun s : S39_1 => SortedIn 0 L (sp s.F0_0 s.F0_1) ∧ PermIn 0 L (sp F G) (sp s.F0_0 s.F0_1)) (fun s : S39_1 => (L - s.x6).toNat) ?_ ?_
  rotate_left
  · exact ⟨20, rfl, by omega, by omega, hb, .refl _ _ _⟩
  rintro ⟨x, F', G'⟩ ⟨B, g1, g2, g3, g4, g5⟩
  simp only at g1 g4 g5
  subst g1
  have w0 : IntKind.i64.wrap ((2 : Int) * B) = ((2 * B : Nat) : Int) := by rw [wi (by omega) (by omega)]; omega
  have w1 : IntKind.i64.wrap ((B : Int) * 2) = ((2 * B : Nat) : Int) := by rw [wi (by omega) (by omega)]; omega
  simp only [r39_1, e39_1_0, e39_1_3, e39_1_6, e39_1_8, e39_1_10, Tr.ok, Tr.get, w0, w1]
  by_cases hc : B < L
  · rw [show cnd (decide ((B : Int) < L)) false true = false from by rw [decide_eq_true (by omega)]; rfl]
    obtain ⟨k1, a, k2, k3, k4, k5, k6, k7⟩ := l39_2 (L := L) (M := M) (B := B) (F := F') (G := G') h1 h2 g2 hc g4
    generalize hz : lastS (r39_2 (P39_2.mk L L B M)) (S39_2.mk 0 (2 * B : Nat) F' G') = z at k2 k5 k6 k7
    have w2 : IntKind.i64.wrap ((a : Int) + B) = ((a + B : Nat) : Int) := by rw [wi (by omega) (by omega)]; omega
    rw [k2, w2]
    by_cases hm : a + B < L
    · have hd : decide (((a + B : Nat) : Int) < L) = true := decide_eq_true (by omega)
      rw [hd]
      have s1 := k6.head
      rw [Nat.min_eq_left (by omega)] at s1
      have s2 := k6.tail.head
      rw [Nat.min_eq_right (by omega)] at s2
      refine ⟨⟨(fun e => by cases e), fun _ => ⟨k1, fun _ => ⟨by simp only; omega, by simp only; omega, by simp only; omega, by simp only; omega, h1, by simp only; omega, s1, s2⟩, fun _ => trivial, (fun e => by cases e)⟩⟩, .inr ⟨_, rfl, ⟨2 * B, rfl, by omega, by omega, ?_, ?_⟩, by simp only; omega⟩⟩
      · have e : sp (fun j => e39_1_11 (P39_1.mk L L M) (S39_1.mk B F' G') j) (fun j => e39_1_12 (P39_1.mk L L M) (S39_1.mk B F' G') j) = srt (sp z.F0_0 z.F0_1) a L := by
          funext j
          simp only [sp, e39_1_11, e39_1_12, w0, hz, k2, Int.toNat_natCast]
        rw [e]
        exact (PB.congr k5 fun j hj => srt_out (by omega)).blk k3 (.step (by rw [Nat.min_eq_right (by omega)]; exact srt_sorted _ _ _) (.done (by omega)))
      · have e : sp (fun j => e39_1_11 (P39_1.mk L L M) (S39_1.mk B F' G') j) (fun j => e39_1_12 (P39_1.mk L L M) (S39_1.mk B F' G') j) = srt (sp z.F0_0 z.F0_1) a L := by
          funext j
          simp only [sp, e39_1_11, e39_1_12, w0, hz, k2, Int.toNat_natCast]
        rw [e]
        exact g5.trans (k7.trans ((srt_perm _ a L).mono (Nat.zero_le _) k3 (Nat.le_refl _)))
    · have hd : decide (((a + B : Nat) : Int) < L) = false := decide_eq_false (by omega)
      rw [hd]
      have s1 := k6.head
      rw [Nat.min_eq_right (by omega)] at s1
      refine ⟨⟨(fun e => by cases e), fun _ => ⟨k1, (fun e => by cases e), (fun e => by cases e), fun _ => trivial⟩⟩, .inr ⟨_, rfl, ⟨2 * B, rfl, by omega, by omega, ?_, ?_⟩, by simp only; omega⟩⟩
      · simp only [e39_1_14, e39_1_15, w0, hz]
        exact k5.blk k3 (.step (by rw [Nat.min_eq_right (by omega)]; exact s1) (.done (by omega)))
      · simp only [e39_1_14, e39_1_15, w0, hz]
        exact g5.trans k7
  · rw [show cnd (decide ((B : Int) < L)) false true = true from by rw [decide_eq_false (by omega)]; rfl]
    have s1 := g4.head
    rw [Nat.min_eq_right (by omega)] at s1
    exact ⟨⟨fun _ => trivial, (fun e => by cases e)⟩, .inl ⟨⟨_, _, _, rfl⟩, s1, g5⟩⟩
theorem l39 (v : V39) (h : pre39 v) : f39_1 v ∧ f39_4 v ∧ f39_7 v ∧ sp (f39z1 v).F0_0 (f39z1 v).F0_1 = srt (sp v.F v.G) 0 v.L := by
  obtain ⟨L, n, M, F, G⟩ := v
  obtain ⟨h1, h2, h3⟩ := h
  simp only at h1 h2 h3
  subst h1
  obtain ⟨k1, a, k2, k3, k4, k5, k6⟩ := l39_0 (L := L) (M := M) (F := F) (G := G) h2 h3
  have hz : lastS (r39_0 (P39_0.mk L L 20 M)) (S39_0.mk 0 20 F G) = f39z0 (V39.mk L L M F G) := rfl
  rw [hz] at k2 k5 k6
  have hblk : Blk 20 L (srt (sp (f39z0 (V39.mk L L M F G)).F0_0 (f39z0 (V39.mk L L M F G)).F0_1) a L) 0 :=
    (PB.congr k5 fun j hj => srt_out (by omega)).blk k3 (.step (by rw [Nat.min_eq_right (by omega)]; exact srt_sorted _ _ _) (.done (by omega)))
  obtain ⟨q1, q2, q3⟩ := l39_1 (L := L) (M := M) h2 h3 (F := fun j => (srt (sp (f39z0 (V39.mk L L M F G)).F0_0 (f39z0 (V39.mk L L M F G)).F0_1) a L j).fst) (G := fun j => (srt (sp (f39z0 (V39.mk L L M F G)).F0_0 (f39z0 (V39.mk L L M F G)).F0_1) a L j).snd) hblk
  have q3 : PermIn 0 L (srt (sp (f39z0 (V39.mk L L M F G)).F0_0 (f39z0 (V39.mk L L M F G)).F0_1) a L) _ := q3
  refine ⟨k1, ?_, ?_, ?_⟩
  · unfold f39_4
    rw [k2]
    exact ⟨by simp only; omega, by simp only; omega, by simp only; omega, h2, by simp only; omega⟩
  · simp only [f39_7, k2, Int.toNat_natCast]
    exact q1
  · have e : f39z1 (V39.mk L L M F G) = _ := rfl
    unfold f39z1
    simp only [k2, Int.toNat_natCast]
    exact srt_unique (k6.trans (((srt_perm _ a L).mono (Nat.zero_le _) k3 (Nat.le_refl _)).trans q3)) q2
noncomputable def C39n : CF th.R := fnC d39 ofV39 f39n
theorem s39n : Sound Try.prog th 39 C39n := fnC_refine s39 fun v h => by
  obtain ⟨hp, _⟩ := h
  obtain ⟨a, b, c, d⟩ := l39 v hp
  refine ⟨⟨a, b, c, trivial⟩, rfl, rfl, .cons (.row fun j _ => ?_) .nil, Nat.le_refl _⟩
  have e := congrFun d j
  simp only [f39_9, f39_10, ← e]
  rfl
noncomputable def nice39n : List (Nat × CF th.R) := (39, lift C39n) :: nice44n
theorem nok39n : NiceOk Try.prog th nice39n := ⟨lift_sound s39n, nok44n⟩
end Go.Sx.S

namespace Go.Sx.S
open Go Go.Sx Go.Proofs Go.RowKit
set_option maxRecDepth 100000
structure V31nil where
def A31nil (v : V31nil) : List SV := [.nils]
def H31nil (v : V31nil) : List (HO th.R) := []
def toV31nil (v : V31nil) : List (Vl th.R) := []
def ofV31nil : List (Vl th.R) → Option V31nil
  | [] => some ⟨⟩
  | _ => none
def d31nil : Ft := ⟨[.nils], []⟩

noncomputable def ff31nil (v : V31nil) : Tr (Fin th.R) := (Tr.leaf (Prod.mk (SV.nils) (Prod.mk [] [])))
noncomputable def f31nil (v : V31nil) : Tr (Fin th.R) := (Tr.leaf (Prod.mk (SV.nils) (Prod.mk [] ([]))))
noncomputable def C31nil : CF th.R := fnC d31nil ofV31nil (f31nil )
theorem q31nil (v : V31nil) : (evFn th Try.prog (auto th Try.prog nice39n [] 20) (autoH [] [] [4] [2] : Hints th) 31) (A31nil v) (H31nil v) = some (ff31nil v) := by kernel_rfl
theorem qg31nil (v : V31nil) : ((ff31nil v).map (setD [])).get = (f31nil v).get := by kernel_rfl
theorem qd31nil (v : V31nil) : allD 0 [] (ff31nil v) = true := by kernel_rfl
theorem s31nil : Sound Try.prog th 31 (C31nil ) := fnC_sound (evFn_sound' (T := th) (P := Try.prog) (tbl := (auto th Try.prog nice39n [] 20)) (auto_sound (nice := nice39n) (us := []) nok39n 20) (H := (autoH [] [] [4] [2] : Hints th)) (k := 31) (fnLoops (LoopsOk_mem (fun _ => rfl) _ fun _ _ _ e => by cases e))) d31nil A31nil H31nil toV31nil (by kernel_rfl) (fun v => by kernel_rfl)
  (fun l v h => by
    unfold ofV31nil at h
    split at h
    · cases h; rfl
    · cases h)
  [] (fun v => ⟨ff31nil v, q31nil v, id, qg31nil v, qd31nil v⟩)
theorem qdd31nil (v : V31nil) : (f31nil v).get.2.2 = [] := by
  rw [← qg31nil, Tr.map_get]; rfl
end Go.Sx.S

namespace Go.Sx.S
open Go Go.Sx Go.Proofs Go.RowKit
set_option maxRecDepth 100000
structure V31 where
  L : Nat
  M : Nat
  ob : Obj
  F : Nat → Int
  G : Nat → Int
def A31 (v : V31) : List SV := [.slc 0 2 0 v.L]
def H31 (v : V31) : List (HO th.R) := [.ro 27 2 v.M (fun j => [.int .u64 (v.F j), .int .u64 (v.G j)]) v.ob]
def toV31 (v : V31) : List (Vl th.R) := [.n v.L, .n v.M, .o v.ob, .c v.F, .c v.G]
def ofV31 : List (Vl th.R) → Option V31
  | [.n L, .n M, .o ob, .c F, .c G] => some ⟨L, M, ob, F, G⟩
  | _ => none
def d31 : Ft := ⟨[.slc0 0 2], [.roc 27 [.int .u64, .int .u64]]⟩
noncomputable def f31_0 (v : V31) : (Prop) := (0:Nat) < v.L
noncomputable def f31_1 (v : V31) : (Prop) := (0:Nat) = (0:Nat) ∧ (0:Nat) ≤ (0:Nat) ∧ (0:Nat) + v.L ≤ v.M ∧ ((0:Nat) + v.L) * (4096 : Nat) ≤ (140737488355328 : Nat) ∧ (0:Nat) + v.L ≤ (9223372036854775807 : Nat)
noncomputable def f31_2 (v : V31) : (Nat) := (0:Nat) + v.L
noncomputable def f31_3 (v : V31) : Nat → (List SV) := fun i => rowSet (i.blt (0:Nat)) (rowEl (0:Nat) (nat_lit 1 + (1 : Nat)) (List.map (fun (i : Nat) => [SV.int IntKind.u64 (0 : Int), SV.int IntKind.u64 (0 : Int)].getD (i % [SV.int IntKind.u64 (0 : Int), SV.int IntKind.u64 (0 : Int)].length) Inhabited.default) (List.range ((0:Nat) * (nat_lit 1 + (1 : Nat))))) i) ((fun (j : Nat) => [SV.int IntKind.u64 (v.F j), SV.int IntKind.u64 (v.G j)]) ((0:Nat) + (i - (0:Nat))))
noncomputable def ff31 (v : V31) : Tr (Fin th.R) := (Tr.need (f31_0 v) (Tr.need (f31_1 v) (Tr.leaf (Prod.mk (SV.slc (2) (2) ((0:Nat)) (f31_2 v)) (Prod.mk (List.cons (HO.ro ((27 : Nat)) ((2 : Nat)) (v.M) (fun j => (List.cons (SV.int (IntKind.u64) (v.F j)) (List.cons (SV.int (IntKind.u64) (v.G j)) []))) (v.ob)) (List.cons (HO.gone) (List.cons (HO.row ((27 : Nat)) (2) (f31_2 v) (fun i => (f31_3 v i))) []))) (List.cons (1) []))))))
noncomputable def f31 (v : V31) : Tr (Fin th.R) := (Tr.need (f31_0 v) (Tr.need (f31_1 v) (Tr.leaf (Prod.mk (SV.slc (2) (2) ((0:Nat)) (f31_2 v)) (Prod.mk (List.cons (HO.ro ((27 : Nat)) ((2 : Nat)) (v.M) (fun j => (List.cons (SV.int (IntKind.u64) (v.F j)) (List.cons (SV.int (IntKind.u64) (v.G j)) []))) (v.ob)) (List.cons (HO.gone) (List.cons (HO.row ((27 : Nat)) (2) (f31_2 v) (fun i => (f31_3 v i))) []))) ([]))))))
noncomputable def C31 : CF th.R := fnC d31 ofV31 (f31 )
theorem q31 (v : V31) : (evFn th Try.prog (auto th Try.prog nice39n [] 20) (autoH [] [] [4] [2] : Hints th) 31) (A31 v) (H31 v) = some (ff31 v) := by kernel_rfl
theorem qg31 (v : V31) : ((ff31 v).map (setD [])).get = (f31 v).get := by kernel_rfl
theorem qd31 (v : V31) : allD 1 [] (ff31 v) = true := by kernel_rfl
theorem s31 : Sound Try.prog th 31 (C31 ) := fnC_sound (evFn_sound' (T := th) (P := Try.prog) (tbl := (auto th Try.prog nice39n [] 20)) (auto_sound (nice := nice39n) (us := []) nok39n 20) (H := (autoH [] [] [4] [2] : Hints th)) (k := 31) (fnLoops (LoopsOk_mem (fun _ => rfl) _ fun _ _ _ e => by cases e))) d31 A31 H31 toV31 (by kernel_rfl) (fun v => by kernel_rfl)
  (fun l v h => by
    unfold ofV31 at h
    split at h
    · cases h; rfl
    · cases h)
  [] (fun v => ⟨ff31 v, q31 v, id, qg31 v, qd31 v⟩)
theorem qdd31 (v : V31) : (f31 v).get.2.2 = [] := by
  rw [← qg31, Tr.map_get]; rfl
end Go.Sx.S

namespace Go.Sx.S
open Go Go.Sx Go.Proofs Go.RowKit
def col31 (v : V31) : Nat → List SV := fun j => [.int .u64 (v.F j), .int .u64 (v.G j)]
def f31n (v : V31) : Tr (Fin th.R) := .need (v.L ≤ v.M ∧ v.L ≤ 30000000000) (.leaf (.slc 1 2 0 v.L, [.ro 27 2 v.M (fun j => [.int .u64 (v.F j), .int .u64 (v.G j)]) v.ob, .row 27 2 v.L (fun j => [.int .u64 (v.F j), .int .u64 (v.G j)])], []))
set_option maxHeartbeats 1000000 in
theorem clone_c (a : Addr) (cap : Nat) (w : World) : Calls Try.prog 31 #[.slice (some a) 0 cap] w fun e w' => e = .returned (.slice (some ⟨w.heap.size, 0, none⟩) 0 0) ∧ w' = w.alloc (.cells #[] 27) := by
  have hb := slice_not_nil (P := Try.prog) (t := 22) (e := 27) (by kernel_rfl) a 0 cap w
  go_enter Try.func31, Try.ntmps31
  go_wp2
  go_ret
  exact ⟨rfl, rfl⟩
theorem clone_at (v : V31) (i : Nat) : f31_3 v i = [.int .u64 (v.F i), .int .u64 (v.G i)] := by
  unfold f31_3
  rw [rowSet_eq]
  have : i.blt 0 = false := by cases i <;> rfl
  rw [this]
  simp [cnd]
noncomputable def t31 (v : V31) : Tr (Fin th.R) := .need (∀ i, scpL 0 ((fun j => [SV.int .u64 (v.F j), SV.int .u64 (v.G j)]) i) = true) (.need (∀ i, i < v.M → (fun j => [SV.int .u64 (v.F j), SV.int .u64 (v.G j)]) i = elC (fun j => [SV.int .u64 (v.F j), SV.int .u64 (v.G j)]) 0 [.int .u64, .int .u64] i)
  (.need (f31_0 v) (.need (f31_1 v) (.need ((∀ i, scpL 0 ((fun j => [SV.int .u64 (v.F j), SV.int .u64 (v.G j)]) i) = true) ∧ ∀ i, scpL 0 (f31_3 v i) = true)
    (.leaf (.slc 1 2 0 (f31_2 v), [.ro 27 2 v.M (fun j => [.int .u64 (v.F j), .int .u64 (v.G j)]) v.ob, .row 27 2 (f31_2 v) (fun i => f31_3 v i)], []))))))
theorem c31 (v : V31) : lift C31 (A31 v) (H31 v) = some (t31 v) := by kernel_rfl
theorem c31nil (v : V31) : lift C31nil [.nils] (H31 v) = some (.leaf (.nils, H31 v, [])) := by kernel_rfl
theorem s31n : Sound Try.prog th 31 (fnC d31 ofV31 f31n) := by
  refine fnC_direct (T := th) d31 A31 H31 toV31 (by kernel_rfl) (fun v => by kernel_rfl) ?_ ?_ (fun v _ => ?_) (fun v _ n hn _ => ?_)
  · intro l v h
    unfold ofV31 at h
    split at h
    · cases h; rfl
    · cases h
  · intro v hok K w0 ρ w vargs I hr
    obtain ⟨⟨h1, h2⟩, _⟩ := hok
    by_cases hL : 0 < v.L
    · have hok : (t31 v).ok := by
        refine ⟨fun i => rfl, fun i _ => rfl, hL, ⟨rfl, Nat.le_refl _, by omega, by omega, by omega⟩, ⟨fun i => rfl, fun i => ?_⟩, trivial⟩
        rw [clone_at]; rfl
      refine (fnC_out (lift_sound s31) (c31 v) hok I hr).mono ?_
      rintro e w' ⟨ρ', cv, rfl, hp, I', hv⟩
      have e0 : f31_2 v = v.L := by unfold f31_2; omega
      refine ⟨ρ', cv, rfl, hp, I'.weak (.cons (.refl _) (.cons ?_ .nil)), ?_⟩
      · show HOw (HO.row 27 2 (f31_2 v) _) _
        rw [e0]
        exact .row fun i _ => clone_at v i
      · have hv : Rel ρ' (.slc 1 2 0 (f31_2 v)) cv := hv
        rw [e0] at hv
        exact hv
    · have hL : v.L = 0 := by omega
      have hr' : RelL ρ [.slc 0 2 0 v.L] vargs := hr
      rw [hL] at hr'
      obtain ⟨v0, _, rfl, ⟨l, hl, hc⟩, rfl⟩ := hr'
      have hlen := I.len
      have goal : ∀ (l' : Loc) (w' : World) (cv : Value) (F' : Nat → Prop), Turns (fun _ => False) w w' → (∀ i, F' i → w.heap.size ≤ i ∧ i < w'.heap.size) → OHolds th (ρ ++ [l']) l' F' w' (.row 27 2 0 (col31 v)) →
          Rel (ρ ++ [l']) (.slc 1 2 0 0) cv → ∃ ρ' cv', Ending.returned cv = .returned cv' ∧ Pre ρ ρ' ∧ Inv th K w0 ρ' (f31n v).get.2.1 w' ∧ Rel ρ' (f31n v).get.1 cv' := by
        intro l' w' cv F' ht hF ho hrel
        refine ⟨ρ ++ [l'], cv, rfl, Pre.snoc _ _, ?_, ?_⟩
        · have := I.news l' (.row 27 2 0 (col31 v)) F' ht hF ho
          have e : (f31n v).get.2.1 = H31 v ++ [.row 27 2 0 (col31 v)] := by
            show [_, HO.row 27 2 v.L _] = [_] ++ [HO.row 27 2 0 _]
            rw [hL]; rfl
          rw [e]; exact this
        · show Rel _ (.slc 1 2 0 v.L) _
          rw [hL]; exact hrel
      have hρ : ρ.length = 1 := hlen
      rcases hc with ⟨q1, _, _, rfl⟩ | ⟨q1, _, a, rfl, _⟩
      · have hr2 : RelL ρ [.nils] [Value.slice none 0 0] := ⟨_, [], rfl, rfl, rfl⟩
        refine (fnC_out (lift_sound s31nil) (c31nil v) trivial I hr2).mono ?_
        rintro e w' ⟨ρ', cv, rfl, hp, I', hv⟩
        have hv : cv = .slice none 0 0 := hv
        subst hv
        have hlen' : ρ'.length = 1 := I'.len
        refine ⟨ρ' ++ [⟨0, 0, true, 0⟩], _, rfl, hp.trans (Pre.snoc _ _), ?_, ?_⟩
        · have := I'.news ⟨0, 0, true, 0⟩ (.row 27 2 0 (col31 v)) (fun _ => False) (Turns.refl _ _) (fun _ q => q.elim) (.inl ⟨rfl, rfl⟩)
          have e : (f31n v).get.2.1 = H31 v ++ [.row 27 2 0 (col31 v)] := by
            show [_, HO.row 27 2 v.L _] = [_] ++ [HO.row 27 2 0 _]
            rw [hL]; rfl
          rw [e]; exact this
        · show Rel _ (.slc 1 2 0 v.L) _
          rw [hL]
          exact ⟨⟨0, 0, true, 0⟩, by rw [List.getElem?_append_right (by omega), hlen']; rfl, .inl ⟨rfl, rfl, rfl, rfl⟩⟩
      · refine (clone_c a (l.cap - 0) w).mono ?_
        rintro e w' ⟨rfl, rfl⟩
        refine goal ⟨w.heap.size, 0, false, 0⟩ _ _ (fun i => i = w.heap.size) (Turns.alloc _ _ _ _) (fun i hi => ⟨by omega, by rw [hi]; show _ < (w.heap.push _).size; simp⟩) (.inr ⟨rfl, rfl, rfl, Nat.le_refl _, [], ?_, rfl, (fun v hv => by simp at hv), fun i hi => by omega⟩) ?_
        · show (w.heap.push _)[w.heap.size]? = _
          simp
        · exact ⟨⟨w.heap.size, 0, false, 0⟩, by rw [List.getElem?_append_right (by omega), hρ]; rfl, .inr ⟨rfl, Nat.le_refl _, _, rfl, fun h => by simp at h⟩⟩
  · show 1 ≤ 2; omega
  · show [_, _][n]? = [_][n]?
    have hn : n < 1 := hn
    have : n = 0 := by omega
    subst this; rfl
noncomputable def C31n : CF th.R := fnC d31 ofV31 f31n
noncomputable def nice31n : List (Nat × CF th.R) := (31, lift C31n) :: nice39n
theorem nok31n : NiceOk Try.prog th nice31n := ⟨lift_sound s31n, nok39n⟩
end Go.Sx.S

namespace Go.Sx.S
open Go Go.Sx Go.Proofs Go.RowKit
set_option maxRecDepth 100000
structure V10 where
  L : Nat
  M : Nat
  ob : Obj
  F : Nat → Int
  G : Nat → Int
def A10 (v : V10) : List SV := [.slc 0 2 0 v.L]
def H10 (v : V10) : List (HO th.R) := [.ro 27 2 v.M (fun j => [.int .u64 (v.F j), .int .u64 (v.G j)]) v.ob]
def toV10 (v : V10) : List (Vl th.R) := [.n v.L, .n v.M, .o v.ob, .c v.F, .c v.G]
def ofV10 : List (Vl th.R) → Option V10
  | [.n L, .n M, .o ob, .c F, .c G] => some ⟨L, M, ob, F, G⟩
  | _ => none
def d10 : Ft := ⟨[.slc0 0 2], [.roc 27 [.int .u64, .int .u64]]⟩
noncomputable def f10_0 (v : V10) : (Prop) := ∀ (i : Nat), scpL (0:Nat) ((fun (j : Nat) => [SV.int IntKind.u64 (v.F j), SV.int IntKind.u64 (v.G j)]) i) = true
noncomputable def f10_1 (v : V10) : (Prop) := ∀ (i : Nat), i < v.M → (fun (j : Nat) => [SV.int IntKind.u64 (v.F j), SV.int IntKind.u64 (v.G j)]) i = elC (fun (j : Nat) => [SV.int IntKind.u64 (v.F j), SV.int IntKind.u64 (v.G j)]) (0:Nat) [Ck.int IntKind.u64, Ck.int IntKind.u64] i
noncomputable def f10_2 (v : V10) : (Prop) := v.L ≤ v.M ∧ v.L ≤ (30000000000 : Nat)
noncomputable def f10_3 (v : V10) : (Prop) := (∀ (i : Nat), scpL (0:Nat) ((fun (j : Nat) => [SV.int IntKind.u64 (v.F j), SV.int IntKind.u64 (v.G j)]) i) = true) ∧ ∀ (i : Nat), scpL (0:Nat) ((fun (j : Nat) => [SV.int IntKind.u64 (v.F j), SV.int IntKind.u64 (v.G j)]) i) = true
noncomputable def f10_4 (v : V10) : (Prop) := ∀ (i : Nat), i < v.L → (fun (j : Nat) => [SV.int IntKind.u64 (v.F j), SV.int IntKind.u64 (v.G j)]) i = elC (fun (j : Nat) => [SV.int IntKind.u64 (v.F j), SV.int IntKind.u64 (v.G j)]) (0:Nat) [Ck.int IntKind.u64, Ck.int IntKind.u64] i
noncomputable def f10_5 (v : V10) : (Prop) := pre39 (V39.mk v.L (↑v.L : Int) v.L v.F v.G)
noncomputable def f10_6 (v : V10) : (Prop) := ∀ (i : Nat), scpL (0:Nat) ((fun (j : Nat) => [SV.int IntKind.u64 (So.srt (sp v.F v.G) (0:Nat) v.L j).fst, SV.int IntKind.u64 (So.srt (sp v.F v.G) (0:Nat) v.L j).snd]) i) = true
noncomputable def f10_7 (v : V10) : (Prop) := ∀ (i : Nat), scpL (1 : Nat) ((fun (j : Nat) => [SV.int IntKind.u64 (So.srt (sp v.F v.G) (0:Nat) v.L j).fst, SV.int IntKind.u64 (So.srt (sp v.F v.G) (0:Nat) v.L j).snd]) i) = true
noncomputable def f10_8 (v : V10) : Nat → (Int) := fun j => (So.srt (sp v.F v.G) (0:Nat) v.L j).fst
noncomputable def f10_9 (v : V10) : Nat → (Int) := fun j => (So.srt (sp v.F v.G) (0:Nat) v.L j).snd
theorem n_f10_0 (v : V10) : f10_0 v := by
  unfold f10_0
  first
    | (intros; rfl)
    | (intro i; rfl)
    | (intro i _; rfl)
    | (intro _ i; rfl)
    | (intro _ i _; rfl)
    | (refine ⟨?_, ?_⟩ <;> intro i <;> rfl)
    | (refine ⟨?_, ?_, ?_⟩ <;> intro i <;> rfl)
    | (refine ⟨?_, ?_⟩ <;> intro i _ <;> rfl)
    | (repeat' apply And.intro) <;> first | (intro i; rfl) | (intro i _; rfl) | (intro i h; exact absurd h (Nat.not_lt_zero i)) | (intro i; exact scpL_rowSet (by rfl) (by rfl)) | (intro i; exact scpL_rowEl (by kernel_rfl) _)
    | (intros; (repeat' apply And.intro) <;> intros <;> first | rfl | (exact absurd (by assumption) (Nat.not_lt_zero _)))
    | omega
    | decide
theorem n_f10_1 (v : V10) : f10_1 v := by
  unfold f10_1
  first
    | (intros; rfl)
    | (intro i; rfl)
    | (intro i _; rfl)
    | (intro _ i; rfl)
    | (intro _ i _; rfl)
    | (refine ⟨?_, ?_⟩ <;> intro i <;> rfl)
    | (refine ⟨?_, ?_, ?_⟩ <;> intro i <;> rfl)
    | (refine ⟨?_, ?_⟩ <;> intro i _ <;> rfl)
    | (repeat' apply And.intro) <;> first | (intro i; rfl) | (intro i _; rfl) | (intro i h; exact absurd h (Nat.not_lt_zero i)) | (intro i; exact scpL_rowSet (by rfl) (by rfl)) | (intro i; exact scpL_rowEl (by kernel_rfl) _)
    | (intros; (repeat' apply And.intro) <;> intros <;> first | rfl | (exact absurd (by assumption) (Nat.not_lt_zero _)))
    | omega
    | decide
theorem n_f10_3 (v : V10) : f10_3 v := by
  unfold f10_3
  first
    | (intros; rfl)
    | (intro i; rfl)
    | (intro i _; rfl)
    | (intro _ i; rfl)
    | (intro _ i _; rfl)
    | (refine ⟨?_, ?_⟩ <;> intro i <;> rfl)
    | (refine ⟨?_, ?_, ?_⟩ <;> intro i <;> rfl)
    | (refine ⟨?_, ?_⟩ <;> intro i _ <;> rfl)
    | (repeat' apply And.intro) <;> first | (intro i; rfl) | (intro i _; rfl) | (intro i h; exact absurd h (Nat.not_lt_zero i)) | (intro i; exact scpL_rowSet (by rfl) (by rfl)) | (intro i; exact scpL_rowEl (by kernel_rfl) _)
    | (intros; (repeat' apply And.intro) <;> intros <;> first | rfl | (exact absurd (by assumption) (Nat.not_lt_zero _)))
    | omega
    | decide
theorem n_f10_4 (v : V10) : f10_4 v := by
  unfold f10_4
  first
    | (intros; rfl)
    | (intro i; rfl)
    | (intro i _; rfl)
    | (intro _ i; rfl)
    | (intro _ i _; rfl)
    | (refine ⟨?_, ?_⟩ <;> intro i <;> rfl)
    | (refine ⟨?_, ?_, ?_⟩ <;> intro i <;> rfl)
    | (refine ⟨?_, ?_⟩ <;> intro i _ <;> rfl)
    | (repeat' apply And.intro) <;> first | (intro i; rfl) | (intro i _; rfl) | (intro i h; exact absurd h (Nat.not_lt_zero i)) | (intro i; exact scpL_rowSet (by rfl) (by rfl)) | (intro i; exact scpL_rowEl (by kernel_rfl) _)
    | (intros; (repeat' apply And.intro) <;> intros <;> first | rfl | (exact absurd (by assumption) (Nat.not_lt_zero _)))
    | omega
    | decide
theorem n_f10_6 (v : V10) : f10_6 v := by
  unfold f10_6
  first
    | (intros; rfl)
    | (intro i; rfl)
    | (intro i _; rfl)
    | (intro _ i; rfl)
    | (intro _ i _; rfl)
    | (refine ⟨?_, ?_⟩ <;> intro i <;> rfl)
    | (refine ⟨?_, ?_, ?_⟩ <;> intro i <;> rfl)
    | (refine ⟨?_, ?_⟩ <;> intro i _ <;> rfl)
    | (repeat' apply And.intro) <;> first | (intro i; rfl) | (intro i _; rfl) | (intro i h; exact absurd h (Nat.not_lt_zero i)) | (intro i; exact scpL_rowSet (by rfl) (by rfl)) | (intro i; exact scpL_rowEl (by kernel_rfl) _)
    | (intros; (repeat' apply And.intro) <;> intros <;> first | rfl | (exact absurd (by assumption) (Nat.not_lt_zero _)))
    | omega
    | decide
theorem n_f10_7 (v : V10) : f10_7 v := by
  unfold f10_7
  first
    | (intros; rfl)
    | (intro i; rfl)
    | (intro i _; rfl)
    | (intro _ i; rfl)
    | (intro _ i _; rfl)
    | (refine ⟨?_, ?_⟩ <;> intro i <;> rfl)
    | (refine ⟨?_, ?_, ?_⟩ <;> intro i <;> rfl)
    | (refine ⟨?_, ?_⟩ <;> intro i _ <;> rfl)
    | (repeat' apply And.intro) <;> first | (intro i; rfl) | (intro i _; rfl) | (intro i h; exact absurd h (Nat.not_lt_zero i)) | (intro i; exact scpL_rowSet (by rfl) (by rfl)) | (intro i; exact scpL_rowEl (by kernel_rfl) _)
    | (intros; (repeat' apply And.intro) <;> intros <;> first | rfl | (exact absurd (by assumption) (Nat.not_lt_zero _)))
    | omega
    | decide
noncomputable def ff10 (v : V10) : Tr (Fin th.R) := (Tr.need (f10_0 v) (Tr.need (f10_1 v) (Tr.need (f10_2 v) (Tr.need (f10_3 v) (Tr.need (f10_0 v) (Tr.need (f10_0 v) (Tr.need (f10_4 v) (Tr.need (f10_5 v) (Tr.need (f10_6 v) (Tr.need (f10_7 v) (Tr.need (f10_6 v) (Tr.leaf (Prod.mk (SV.slc (1) ((2 : Nat)) ((0:Nat)) (v.L)) (Prod.mk (List.cons (HO.ro ((27 : Nat)) ((2 : Nat)) (v.M) (fun j => (List.cons (SV.int (IntKind.u64) (v.F j)) (List.cons (SV.int (IntKind.u64) (v.G j)) []))) (v.ob)) (List.cons (HO.row ((27 : Nat)) ((2 : Nat)) (v.L) (fun j => (List.cons (SV.int (IntKind.u64) (f10_8 v j)) (List.cons (SV.int (IntKind.u64) (f10_9 v j)) [])))) [])) (List.cons (1) [])))))))))))))))
noncomputable def f10 (v : V10) : Tr (Fin th.R) := (Tr.need (f10_2 v) (Tr.need (f10_5 v) (Tr.leaf (Prod.mk (SV.slc (1) ((2 : Nat)) ((0:Nat)) (v.L)) (Prod.mk (List.cons (HO.ro ((27 : Nat)) ((2 : Nat)) (v.M) (fun j => (List.cons (SV.int (IntKind.u64) (v.F j)) (List.cons (SV.int (IntKind.u64) (v.G j)) []))) (v.ob)) (List.cons (HO.row ((27 : Nat)) ((2 : Nat)) (v.L) (fun j => (List.cons (SV.int (IntKind.u64) (f10_8 v j)) (List.cons (SV.int (IntKind.u64) (f10_9 v j)) [])))) [])) ([]))))))
noncomputable def C10 : CF th.R := fnC d10 ofV10 (f10 )
theorem q10 (v : V10) : (evFn th Try.prog (auto th Try.prog nice31n [] 20) (autoH [] [] [] [] : Hints th) 10) (A10 v) (H10 v) = some (ff10 v) := by kernel_rfl
theorem qg10 (v : V10) : ((ff10 v).map (setD [])).get = (f10 v).get := by kernel_rfl
theorem qd10 (v : V10) : allD 1 [] (ff10 v) = true := by kernel_rfl
theorem s10 : Sound Try.prog th 10 (C10 ) := fnC_sound (evFn_sound' (T := th) (P := Try.prog) (tbl := (auto th Try.prog nice31n [] 20)) (auto_sound (nice := nice31n) (us := []) nok31n 20) (H := (autoH [] [] [] [] : Hints th)) (k := 10) (fnLoops (LoopsOk_mem (fun _ => rfl) _ fun _ _ _ e => by cases e))) d10 A10 H10 toV10 (by kernel_rfl) (fun v => by kernel_rfl)
  (fun l v h => by
    unfold ofV10 at h
    split at h
    · cases h; rfl
    · cases h)
  [] (fun v => ⟨ff10 v, q10 v, fun h => by
    unfold f10 at h; unfold ff10
    simp only [Tr.ok, n_f10_0, n_f10_1, n_f10_3, n_f10_4, n_f10_6, n_f10_7, true_and, and_true, forall_const, implies_true] at h ⊢
    try exact h, qg10 v, qd10 v⟩)
theorem qdd10 (v : V10) : (f10 v).get.2.2 = [] := by
  rw [← qg10, Tr.map_get]; rfl
end Go.Sx.S

namespace Go.Sx.S
open Go Go.Sx Go.Proofs Go.RowKit
set_option maxRecDepth 100000
open So
def pre10 (v : V10) : Prop := v.L ≤ v.M ∧ v.L ≤ 30000000000
theorem n10 (v : V10) (h : pre10 v) : (f10 v).ok ∧ (f10 v).get.1 = .slc 1 2 0 v.L ∧ HOws (f10 v).get.2.1 [HO.ro 27 2 v.M (fun j => [SV.int .u64 (v.F j), SV.int .u64 (v.G j)]) v.ob, rowP v.L (srt (sp v.F v.G) 0 v.L)] := by
  obtain ⟨h1, h2⟩ := h
  exact ⟨⟨⟨h1, h2⟩, ⟨rfl, Nat.le_refl _, by simp only; omega⟩, trivial⟩, rfl, .refl _⟩
noncomputable def f10n (v : V10) : Tr (Fin th.R) := .need (pre10 v) (.leaf (.slc 1 2 0 v.L, [.ro 27 2 v.M (fun j => [.int .u64 (v.F j), .int .u64 (v.G j)]) v.ob, rowP v.L (So.srt (sp v.F v.G) 0 v.L)], []))
theorem s10n : Sound Try.prog th 10 (fnC d10 ofV10 f10n) := fnC_refine s10 fun v h => by
  obtain ⟨hp, _⟩ := h
  obtain ⟨a, b, c⟩ := n10 v hp
  exact ⟨a, b.symm, (qdd10 v).symm, c, by show 1 ≤ 2; decide⟩
structure V10w where
  L : Nat
  M : Nat
  F : Nat → Int
  G : Nat → Int
def inj10 (v : V10w) (o : Obj) : V10 := ⟨v.L, v.M, o, v.F, v.G⟩
def A10w (v : V10w) : List SV := [.slc 0 2 0 v.L]
def H10w (v : V10w) : List (HO th.R) := [.row 27 2 v.M (fun j => [.int .u64 (v.F j), .int .u64 (v.G j)])]
def toV10w (v : V10w) : List (Vl th.R) := [.n v.L, .n v.M, .c v.F, .c v.G]
def ofV10w : List (Vl th.R) → Option V10w
  | [.n L, .n M, .c F, .c G] => some ⟨L, M, F, G⟩
  | _ => none
def d10w : Ft := ⟨[.slc0 0 2], [.rowc 27 [.int .u64, .int .u64]]⟩
noncomputable def f10w (v : V10w) : Tr (Fin th.R) := .need (pre10 (inj10 v (.cells #[] 0))) (.leaf (.slc 1 2 0 (inj10 v (.cells #[] 0)).L, [.row 27 2 v.M (fun j => [.int .u64 (v.F j), .int .u64 (v.G j)]), rowP (inj10 v (.cells #[] 0)).L (So.srt (sp (inj10 v (.cells #[] 0)).F (inj10 v (.cells #[] 0)).G) 0 (inj10 v (.cells #[] 0)).L)], []))
theorem cw10 (v : V10w) (o : Obj) : fnC d10 ofV10 f10n (A10 (inj10 v o)) (H10 (inj10 v o)) = some (.need (∀ i, i < v.M → (fun j => [.int .u64 (v.F j), .int .u64 (v.G j)] : Nat → List SV) i = elC (fun j => [.int .u64 (v.F j), .int .u64 (v.G j)] : Nat → List SV) 0 [.int .u64, .int .u64] i) ((f10n (inj10 v o)).map (fixF (H10 (inj10 v o))))) := by kernel_rfl
theorem s10w : Sound Try.prog th 10 (fnC d10w ofV10w f10w) := by
  refine fnC_direct (T := th) d10w A10w H10w toV10w (by kernel_rfl) (fun v => by kernel_rfl) ?_ ?_ (fun v _ => Nat.le_add_left _ _) (fun v _ n hn _ => ?_)
  · intro l v h
    unfold ofV10w at h
    split at h
    · cases h; rfl
    · cases h
  · intro v hok K w0 ρ w vargs I hr
    obtain ⟨hp, _⟩ := hok
    exact ro_row (tl := [rowP (inj10 v (.cells #[] 0)).L (So.srt (sp (inj10 v (.cells #[] 0)).F (inj10 v (.cells #[] 0)).G) 0 (inj10 v (.cells #[] 0)).L)]) (val := .slc 1 2 0 (inj10 v (.cells #[] 0)).L) (fun o K w0 ρ w vargs I hr => fnC_out s10n (cw10 v o) ⟨fun i _ => rfl, hp, trivial⟩ I hr) I hr
  · have hn : n < 1 := hn
    have : n = 0 := by omega
    subst this; rfl
noncomputable def nice10n : List (Nat × CF th.R) := (10, lift (orC (fnC d10 ofV10 f10n) (fnC d10w ofV10w f10w))) :: nice31n
theorem nok10n : NiceOk Try.prog th nice10n := ⟨lift_sound (orC_sound s10n s10w), nok31n⟩
end Go.Sx.S

namespace Go.Sx.S
open Go Go.Sx Go.Proofs Go.RowKit
set_option maxRecDepth 100000
structure V41 where
  L : Nat
  M : Nat
  F : Nat → Int
  G : Nat → Int
def A41 (v : V41) : List SV := [.slc 0 2 0 v.L, .fn 42 []]
def H41 (v : V41) : List (HO th.R) := [.row 27 2 v.M (fun j => [.int .u64 (v.F j), .int .u64 (v.G j)])]
def toV41 (v : V41) : List (Vl th.R) := [.n v.L, .n v.M, .c v.F, .c v.G]
def ofV41 : List (Vl th.R) → Option V41
  | [.n L, .n M, .c F, .c G] => some ⟨L, M, F, G⟩
  | _ => none
def d41 : Ft := ⟨[.slc0 0 2, .fn 42 []], [.rowc 27 [.int .u64, .int .u64]]⟩
structure P41_0 where
  n0 : Nat
  N0 : Nat
structure S41_0 where
  x5 : Int
  x6 : Int
  F0_0 : Nat → Int
  F0_1 : Nat → Int
instance : Inhabited S41_0 := ⟨⟨0, 0, fun _ => 0, fun _ => 0⟩⟩
def I41_0 (p : P41_0) (s : S41_0) : St th.R := ⟨[some (.slc 0 2 0 p.n0), some (.fn 42 []), none, none, none, some (.int .i64 s.x5), some (.int .i64 s.x6), none, none, none, none, none, none, none, none, none, none, none, none, none, none, none, none, none, none, none, none, none, none, none, none, none, none, none, none, none, none, none, none, none, none, none], [.row 27 2 p.N0 (fun j => [.int .u64 (s.F0_0 j), .int .u64 (s.F0_1 j)])], [], []⟩
def d41_0 : Lp := ⟨⟨42, [(0, .slc0 0 2), (1, .fn 42 []), (5, .int .i64), (6, .int .i64)], [.rowc 27 [.int .u64, .int .u64]]⟩, [], 1, [0], [0, 5], []⟩
def toV41_0 (p : P41_0) (s : S41_0) : List (Vl th.R) := [.n p.n0, .i s.x5, .i s.x6, .n p.N0, .c s.F0_0, .c s.F0_1]
def ofV41_0 : List (Vl th.R) → Option (P41_0 × S41_0)
  | [.n n0, .i x5, .i x6, .n N0, .c F0_0, .c F0_1] => some (⟨n0, N0⟩, ⟨x5, x6, F0_0, F0_1⟩)
  | _ => none
noncomputable def e41_0_0 (p : P41_0) (s : S41_0) : (Bool) := cnd (decide (s.x6 < (↑p.n0 : Int))) false true
noncomputable def e41_0_1 (p : P41_0) (s : S41_0) : (Prop) := ∀ (i : Nat), scpL (0:Nat) ((fun (j : Nat) => [SV.int IntKind.u64 (s.F0_0 j), SV.int IntKind.u64 (s.F0_1 j)]) i) = true
noncomputable def e41_0_2 (p : P41_0) (s : S41_0) : (Prop) := (0 : Int) ≤ s.x6 ∧ s.x6 < (↑p.n0 : Int)
noncomputable def e41_0_3 (p : P41_0) (s : S41_0) : (Prop) := (0:Nat) + s.x6.toNat < p.N0
noncomputable def e41_0_4 (p : P41_0) (s : S41_0) : (Prop) := (!f42_0 (s.F0_0 ((0:Nat) + s.x6.toNat)) (s.F0_1 ((0:Nat) + s.x6.toNat))) = true → (0 : Int) ≤ s.x5 ∧ s.x5 < (↑p.n0 : Int)
noncomputable def e41_0_5 (p : P41_0) (s : S41_0) : (Prop) := (!f42_0 (s.F0_0 ((0:Nat) + s.x6.toNat)) (s.F0_1 ((0:Nat) + s.x6.toNat))) = true → (0:Nat) + s.x5.toNat < p.N0 ∧ (2 : Nat) = (2 : Nat)
noncomputable def e41_0_6 (p : P41_0) (s : S41_0) : (Bool) := !f42_0 (s.F0_0 ((0:Nat) + s.x6.toNat)) (s.F0_1 ((0:Nat) + s.x6.toNat))
noncomputable def e41_0_7 (p : P41_0) (s : S41_0) : (Prop) := (∀ (i : Nat), scpL (0:Nat) ((fun (j : Nat) => rowSet (j.beq ((0:Nat) + s.x5.toNat)) (splice ((fun (j : Nat) => [SV.int IntKind.u64 (s.F0_0 j), SV.int IntKind.u64 (s.F0_1 j)]) ((0:Nat) + s.x5.toNat)) (0:Nat) (SV.agg (List.take (2 : Nat) (List.drop (0:Nat) (splice [SV.int IntKind.u64 (0 : Int), SV.int IntKind.u64 (0 : Int)] (0:Nat) (SV.agg (List.take (2 : Nat) (List.drop (0:Nat) ((fun (j : Nat) => [SV.int IntKind.u64 (s.F0_0 j), SV.int IntKind.u64 (s.F0_1 j)]) ((0:Nat) + s.x6.toNat))))).cells)))).cells) ((fun (j : Nat) => [SV.int IntKind.u64 (s.F0_0 j), SV.int IntKind.u64 (s.F0_1 j)]) j)) i) = true) ∧ ∀ (i : Nat), i < p.N0 → (fun (j : Nat) => rowSet (j.beq ((0:Nat) + s.x5.toNat)) (splice ((fun (j : Nat) => [SV.int IntKind.u64 (s.F0_0 j), SV.int IntKind.u64 (s.F0_1 j)]) ((0:Nat) + s.x5.toNat)) (0:Nat) (SV.agg (List.take (2 : Nat) (List.drop (0:Nat) (splice [SV.int IntKind.u64 (0 : Int), SV.int IntKind.u64 (0 : Int)] (0:Nat) (SV.agg (List.take (2 : Nat) (List.drop (0:Nat) ((fun (j : Nat) => [SV.int IntKind.u64 (s.F0_0 j), SV.int IntKind.u64 (s.F0_1 j)]) ((0:Nat) + s.x6.toNat))))).cells)))).cells) ((fun (j : Nat) => [SV.int IntKind.u64 (s.F0_0 j), SV.int IntKind.u64 (s.F0_1 j)]) j)) i = elC (fun (j : Nat) => rowSet (j.beq ((0:Nat) + s.x5.toNat)) (splice ((fun (j : Nat) => [SV.int IntKind.u64 (s.F0_0 j), SV.int IntKind.u64 (s.F0_1 j)]) ((0:Nat) + s.x5.toNat)) (0:Nat) (SV.agg (List.take (2 : Nat) (List.drop (0:Nat) (splice [SV.int IntKind.u64 (0 : Int), SV.int IntKind.u64 (0 : Int)] (0:Nat) (SV.agg (List.take (2 : Nat) (List.drop (0:Nat) ((fun (j : Nat) => [SV.int IntKind.u64 (s.F0_0 j), SV.int IntKind.u64 (s.F0_1 j)]) ((0:Nat) + s.x6.toNat))))).cells)))).cells) ((fun (j : Nat) => [SV.int IntKind.u64 (s.F0_0 j), SV.int IntKind.u64 (s.F0_1 j)]) j)) (0:Nat) [Ck.int IntKind.u64, Ck.int IntKind.u64] i
noncomputable def e41_0_8 (p : P41_0) (s : S41_0) : (Int) := IntKind.i64.wrap (s.x5 + (1 : Int))
noncomputable def e41_0_9 (p : P41_0) (s : S41_0) : (Int) := IntKind.i64.wrap (s.x6 + (1 : Int))
noncomputable def e41_0_10 (p : P41_0) (s : S41_0) : Nat → (Int) := fun j => cnd (j.beq ((0:Nat) + s.x5.toNat)) (s.F0_0 ((0:Nat) + s.x6.toNat)) (s.F0_0 j)
noncomputable def e41_0_11 (p : P41_0) (s : S41_0) : Nat → (Int) := fun j => cnd (j.beq ((0:Nat) + s.x5.toNat)) (s.F0_1 ((0:Nat) + s.x6.toNat)) (s.F0_1 j)
noncomputable def e41_0_12 (p : P41_0) (s : S41_0) : (Prop) := (∀ (i : Nat), scpL (0:Nat) ((fun (j : Nat) => [SV.int IntKind.u64 (s.F0_0 j), SV.int IntKind.u64 (s.F0_1 j)]) i) = true) ∧ ∀ (i : Nat), i < p.N0 → (fun (j : Nat) => [SV.int IntKind.u64 (s.F0_0 j), SV.int IntKind.u64 (s.F0_1 j)]) i = elC (fun (j : Nat) => [SV.int IntKind.u64 (s.F0_0 j), SV.int IntKind.u64 (s.F0_1 j)]) (0:Nat) [Ck.int IntKind.u64, Ck.int IntKind.u64] i
theorem n_e41_0_1 (p : P41_0) (s : S41_0) : e41_0_1 p s := by
  unfold e41_0_1
  first
    | (intros; rfl)
    | (intro i; rfl)
    | (intro i _; rfl)
    | (intro _ i; rfl)
    | (intro _ i _; rfl)
    | (refine ⟨?_, ?_⟩ <;> intro i <;> rfl)
    | (refine ⟨?_, ?_, ?_⟩ <;> intro i <;> rfl)
    | (refine ⟨?_, ?_⟩ <;> intro i _ <;> rfl)
    | (repeat' apply And.intro) <;> first | (intro i; rfl) | (intro i _; rfl) | (intro i h; exact absurd h (Nat.not_lt_zero i)) | (intro i; exact scpL_rowSet (by rfl) (by rfl)) | (intro i; exact scpL_rowEl (by kernel_rfl) _)
    | (intros; (repeat' apply And.intro) <;> intros <;> first | rfl | (exact absurd (by assumption) (Nat.not_lt_zero _)))
    | omega
    | decide
theorem n_e41_0_7 (p : P41_0) (s : S41_0) : e41_0_7 p s := by
  unfold e41_0_7
  first
    | (intros; rfl)
    | (intro i; rfl)
    | (intro i _; rfl)
    | (intro _ i; rfl)
    | (intro _ i _; rfl)
    | (refine ⟨?_, ?_⟩ <;> intro i <;> rfl)
    | (refine ⟨?_, ?_, ?_⟩ <;> intro i <;> rfl)
    | (refine ⟨?_, ?_⟩ <;> intro i _ <;> rfl)
    | (repeat' apply And.intro) <;> first | (intro i; rfl) | (intro i _; rfl) | (intro i h; exact absurd h (Nat.not_lt_zero i)) | (intro i; exact scpL_rowSet (by rfl) (by rfl)) | (intro i; exact scpL_rowEl (by kernel_rfl) _)
    | (intros; (repeat' apply And.intro) <;> intros <;> first | rfl | (exact absurd (by assumption) (Nat.not_lt_zero _)))
    | omega
    | decide
theorem n_e41_0_12 (p : P41_0) (s : S41_0) : e41_0_12 p s := by
  unfold e41_0_12
  first
    | (intros; rfl)
    | (intro i; rfl)
    | (intro i _; rfl)
    | (intro _ i; rfl)
    | (intro _ i _; rfl)
    | (refine ⟨?_, ?_⟩ <;> intro i <;> rfl)
    | (refine ⟨?_, ?_, ?_⟩ <;> intro i <;> rfl)
    | (refine ⟨?_, ?_⟩ <;> intro i _ <;> rfl)
    | (repeat' apply And.intro) <;> first | (intro i; rfl) | (intro i _; rfl) | (intro i h; exact absurd h (Nat.not_lt_zero i)) | (intro i; exact scpL_rowSet (by rfl) (by rfl)) | (intro i; exact scpL_rowEl (by kernel_rfl) _)
    | (intros; (repeat' apply And.intro) <;> intros <;> first | rfl | (exact absurd (by assumption) (Nat.not_lt_zero _)))
    | omega
    | decide
noncomputable def rf41_0 (p : P41_0) (s : S41_0) : Tr (Rs th.R S41_0) := (Tr.ite (e41_0_0 p s) (Tr.need (e41_0_1 p s) (Tr.leaf (Rs.out (Ex.exit ((0:Nat))) (List.cons (Option.some (SV.slc ((0:Nat)) ((2 : Nat)) ((0:Nat)) (p.n0))) (none :: (none :: (none :: (none :: (List.cons (Option.some (SV.int (IntKind.i64) (s.x5))) (none :: (none :: (none :: (none :: (none :: (none :: (none :: (none :: (none :: (none :: (none :: (none :: (none :: (none :: (none :: (none :: (none :: (none :: (none :: (none :: (none :: (none :: (none :: (none :: (none :: (none :: (none :: (none :: (none :: (none :: (none :: (none :: (none :: (none :: (none :: (none :: [])))))))))))))))))))))))))))))))))))))))))) (List.cons (HO.row ((27 : Nat)) ((2 : Nat)) (p.N0) (fun j => (List.cons (SV.int (IntKind.u64) (s.F0_0 j)) (List.cons (SV.int (IntKind.u64) (s.F0_1 j)) [])))) [])))) (Tr.need (e41_0_2 p s) (Tr.need (e41_0_3 p s) (Tr.need (e41_0_4 p s) (Tr.need (e41_0_5 p s) (Tr.ite (e41_0_6 p s) (Tr.need (e41_0_7 p s) (Tr.leaf (Rs.on (S41_0.mk ((e41_0_8 p s)) ((e41_0_9 p s)) ((fun j => (e41_0_10 p s j))) ((fun j => (e41_0_11 p s j))))))) (Tr.need (e41_0_12 p s) (Tr.leaf (Rs.on (S41_0.mk (s.x5) ((e41_0_9 p s)) (s.F0_0) (s.F0_1)))))))))))
noncomputable def r41_0 (p : P41_0) (s : S41_0) : Tr (Rs th.R S41_0) := (Tr.ite (e41_0_0 p s) (Tr.leaf (Rs.out (Ex.exit ((0:Nat))) (List.cons (Option.some (SV.slc ((0:Nat)) ((2 : Nat)) ((0:Nat)) (p.n0))) (none :: (none :: (none :: (none :: (List.cons (Option.some (SV.int (IntKind.i64) (s.x5))) (none :: (none :: (none :: (none :: (none :: (none :: (none :: (none :: (none :: (none :: (none :: (none :: (none :: (none :: (none :: (none :: (none :: (none :: (none :: (none :: (none :: (none :: (none :: (none :: (none :: (none :: (none :: (none :: (none :: (none :: (none :: (none :: (none :: (none :: (none :: (none :: [])))))))))))))))))))))))))))))))))))))))))) (List.cons (HO.row ((27 : Nat)) ((2 : Nat)) (p.N0) (fun j => (List.cons (SV.int (IntKind.u64) (s.F0_0 j)) (List.cons (SV.int (IntKind.u64) (s.F0_1 j)) [])))) []))) (Tr.need (e41_0_2 p s) (Tr.need (e41_0_3 p s) (Tr.need (e41_0_4 p s) (Tr.need (e41_0_5 p s) (Tr.ite (e41_0_6 p s) (Tr.leaf (Rs.on (S41_0.mk ((e41_0_8 p s)) ((e41_0_9 p s)) ((fun j => (e41_0_10 p s j))) ((fun j => (e41_0_11 p s j)))))) (Tr.leaf (Rs.on (S41_0.mk (s.x5) ((e41_0_9 p s)) (s.F0_0) (s.F0_1))))))))))
noncomputable def E41_0 : St th.R → Out th := evCode th Try.prog (auto th Try.prog nice10n [] 20) (autoH [] [] [] [999998] : Hints th) (lpAt Try.prog 41 0)
theorem B41_0 : CodeSound th Try.prog (lpAt Try.prog 41 0) E41_0 := evCode_sound (T := th) (P := Try.prog) (tbl := (auto th Try.prog nice10n [] 20)) (auto_sound (nice := nice10n) (us := []) nok10n 20) (autoH [] [] [] [999998] : Hints th) _ (LoopsOk_mem (fun _ => rfl) _ fun b hb L hL => by cases hL)
noncomputable def L41_0 : St th.R → Out th := loopL d41_0 ofV41_0 r41_0
theorem h1_41_0 (p : P41_0) (s : S41_0) : bld d41_0.tm (toV41_0 p s) = some (I41_0 p s) := by kernel_rfl
theorem h2_41_0 (l : List (Vl th.R)) (p : P41_0) (s : S41_0) (h : ofV41_0 l = some (p, s)) : l = toV41_0 p s := by
  unfold ofV41_0 at h
  split at h
  · cases h; rfl
  · cases h
theorem h3_41_0 (p : P41_0) (s : S41_0) : cvE d41_0 (E41_0 (I41_0 p s)) = some ((rf41_0 p s).map (Rs.map (toV41_0 p))) := by kernel_rfl
theorem h3g_41_0 (p : P41_0) (s : S41_0) : (rf41_0 p s).get = (r41_0 p s).get := by kernel_rfl
theorem h4_41_0 (p : P41_0) (s s1 : S41_0) : outH d41_0.dirt d41_0.n0 (r41_0 p s) = repH (maskH d41_0.dirt 0 d41_0.n0 (I41_0 p s1).heap) (r41_0 p s) := by kernel_rfl
theorem ls41_0 : CodeSound th Try.prog (.loop (lpAt Try.prog 41 0)) L41_0 := loopL_sound B41_0 d41_0 I41_0 toV41_0 (by kernel_rfl) h1_41_0 h2_41_0
  (fun p s => ⟨(rf41_0 p s).map (Rs.map (toV41_0 p)), h3_41_0 p s, fun h => by
    rw [Tr.map_ok]
    unfold r41_0 at h; unfold rf41_0
    simp only [Tr.ok, n_e41_0_1, n_e41_0_7, n_e41_0_12, true_and, and_true, forall_const, implies_true] at h ⊢
    try exact h, by rw [Tr.map_get, h3g_41_0 p s]⟩) h4_41_0
theorem ok41 : LoopsOk th Try.prog (autoH [(5, L41_0)] [] [] [999998] : Hints th) (bodyOf Try.prog 41) := autoH_ok (bs := [lpAt Try.prog 41 0]) (by kernel_rfl) fun b hb L hL => by
  simp only [List.mem_cons, List.not_mem_nil, or_false] at hb
  rcases hb with rfl
  · have e : lookL [(5, L41_0)] (firstReg (lpAt Try.prog 41 0)) = some L41_0 := by kernel_rfl
    rw [e] at hL; cases hL
    exact ls41_0
noncomputable def f41_0 (v : V41) : (Prop) := ∀ (i : Nat), scpL (0:Nat) ((fun (j : Nat) => [SV.int IntKind.u64 (v.F j), SV.int IntKind.u64 (v.G j)]) i) = true
noncomputable def f41_1 (v : V41) : (Prop) := ∀ (i : Nat), i < v.M → (fun (j : Nat) => [SV.int IntKind.u64 (v.F j), SV.int IntKind.u64 (v.G j)]) i = elC (fun (j : Nat) => [SV.int IntKind.u64 (v.F j), SV.int IntKind.u64 (v.G j)]) (0:Nat) [Ck.int IntKind.u64, Ck.int IntKind.u64] i
noncomputable def f41_2 (v : V41) : (Prop) := f45_1 (V45.mk v.L v.M v.F v.G)
noncomputable def f41_3 (v : V41) : (Prop) := (f45_2 (V45.mk v.L v.M v.F v.G) == (-1 : Int)) = false → ∀ (i : Nat), i < v.M → (fun (j : Nat) => [SV.int IntKind.u64 (v.F j), SV.int IntKind.u64 (v.G j)]) i = elC (fun (j : Nat) => [SV.int IntKind.u64 (v.F j), SV.int IntKind.u64 (v.G j)]) (0:Nat) [Ck.int IntKind.u64, Ck.int IntKind.u64] i
noncomputable def f41_4 (v : V41) : (Prop) := (f45_2 (V45.mk v.L v.M v.F v.G) == (-1 : Int)) = false → LT (r41_0 (P41_0.mk v.L v.M)) (S41_0.mk (f45_2 (V45.mk v.L v.M v.F v.G)) (IntKind.i64.wrap (f45_2 (V45.mk v.L v.M v.F v.G) + (1 : Int))) v.F v.G)
noncomputable def f41z0 (v : V41) : S41_0 := lastS (r41_0 (P41_0.mk v.L v.M)) (S41_0.mk (f45_2 (V45.mk v.L v.M v.F v.G)) (IntKind.i64.wrap (f45_2 (V45.mk v.L v.M v.F v.G) + (1 : Int))) v.F v.G)
noncomputable def f41_5 (v : V41) : (Prop) := (f45_2 (V45.mk v.L v.M v.F v.G) == (-1 : Int)) = false → (0 : Int) ≤ (f41z0 v).x5 ∧ (f41z0 v).x5 ≤ (↑v.L : Int)
noncomputable def f41_6 (v : V41) : (Prop) := (f45_2 (V45.mk v.L v.M v.F v.G) == (-1 : Int)) = false → (0:Nat) + (f41z0 v).x5.toNat + (v.L - (f41z0 v).x5.toNat) ≤ v.M
noncomputable def f41_7 (v : V41) : (Bool) := f45_2 (V45.mk v.L v.M v.F v.G) == (-1 : Int)
noncomputable def f41_8 (v : V41) : (Prop) := (∀ (i : Nat), scpL (1 : Nat) ((fun (j : Nat) => rowSet (cnd (j.blt ((0:Nat) + (f41z0 v).x5.toNat)) false (j.blt ((0:Nat) + (f41z0 v).x5.toNat + (v.L - (f41z0 v).x5.toNat)))) [SV.int IntKind.u64 (0 : Int), SV.int IntKind.u64 (0 : Int)] ((fun (j : Nat) => [SV.int IntKind.u64 ((f41z0 v).F0_0 j), SV.int IntKind.u64 ((f41z0 v).F0_1 j)]) j)) i) = true) ∧ ∀ (i : Nat), scpL (1 : Nat) ((fun (j : Nat) => rowSet (cnd (j.blt ((0:Nat) + (f41z0 v).x5.toNat)) false (j.blt ((0:Nat) + (f41z0 v).x5.toNat + (v.L - (f41z0 v).x5.toNat)))) [SV.int IntKind.u64 (0 : Int), SV.int IntKind.u64 (0 : Int)] ((fun (j : Nat) => [SV.int IntKind.u64 ((f41z0 v).F0_0 j), SV.int IntKind.u64 ((f41z0 v).F0_1 j)]) j)) i) = true
noncomputable def f41_9 (v : V41) : (Nat) := (f41z0 v).x5.toNat
noncomputable def f41_10 (v : V41) : Nat → (Int) := fun j => cnd (cnd (j.blt ((0:Nat) + (f41z0 v).x5.toNat)) false (j.blt ((0:Nat) + (f41z0 v).x5.toNat + (v.L - (f41z0 v).x5.toNat)))) (0 : Int) ((f41z0 v).F0_0 j)
noncomputable def f41_11 (v : V41) : Nat → (Int) := fun j => cnd (cnd (j.blt ((0:Nat) + (f41z0 v).x5.toNat)) false (j.blt ((0:Nat) + (f41z0 v).x5.toNat + (v.L - (f41z0 v).x5.toNat)))) (0 : Int) ((f41z0 v).F0_1 j)
theorem n_f41_0 (v : V41) : f41_0 v := by
  unfold f41_0
  first
    | (intros; rfl)
    | (intro i; rfl)
    | (intro i _; rfl)
    | (intro _ i; rfl)
    | (intro _ i _; rfl)
    | (refine ⟨?_, ?_⟩ <;> intro i <;> rfl)
    | (refine ⟨?_, ?_, ?_⟩ <;> intro i <;> rfl)
    | (refine ⟨?_, ?_⟩ <;> intro i _ <;> rfl)
    | (repeat' apply And.intro) <;> first | (intro i; rfl) | (intro i _; rfl) | (intro i h; exact absurd h (Nat.not_lt_zero i)) | (intro i; exact scpL_rowSet (by rfl) (by rfl)) | (intro i; exact scpL_rowEl (by kernel_rfl) _)
    | (intros; (repeat' apply And.intro) <;> intros <;> first | rfl | (exact absurd (by assumption) (Nat.not_lt_zero _)))
    | omega
    | decide
theorem n_f41_1 (v : V41) : f41_1 v := by
  unfold f41_1
  first
    | (intros; rfl)
    | (intro i; rfl)
    | (intro i _; rfl)
    | (intro _ i; rfl)
    | (intro _ i _; rfl)
    | (refine ⟨?_, ?_⟩ <;> intro i <;> rfl)
    | (refine ⟨?_, ?_, ?_⟩ <;> intro i <;> rfl)
    | (refine ⟨?_, ?_⟩ <;> intro i _ <;> rfl)
    | (repeat' apply And.intro) <;> first | (intro i; rfl) | (intro i _; rfl) | (intro i h; exact absurd h (Nat.not_lt_zero i)) | (intro i; exact scpL_rowSet (by rfl) (by rfl)) | (intro i; exact scpL_rowEl (by kernel_rfl) _)
    | (intros; (repeat' apply And.intro) <;> intros <;> first | rfl | (exact absurd (by assumption) (Nat.not_lt_zero _)))
    | omega
    | decide
theorem n_f41_3 (v : V41) : f41_3 v := by
  unfold f41_3
  first
    | (intros; rfl)
    | (intro i; rfl)
    | (intro i _; rfl)
    | (intro _ i; rfl)
    | (intro _ i _; rfl)
    | (refine ⟨?_, ?_⟩ <;> intro i <;> rfl)
    | (refine ⟨?_, ?_, ?_⟩ <;> intro i <;> rfl)
    | (refine ⟨?_, ?_⟩ <;> intro i _ <;> rfl)
    | (repeat' apply And.intro) <;> first | (intro i; rfl) | (intro i _; rfl) | (intro i h; exact absurd h (Nat.not_lt_zero i)) | (intro i; exact scpL_rowSet (by rfl) (by rfl)) | (intro i; exact scpL_rowEl (by kernel_rfl) _)
    | (intros; (repeat' apply And.intro) <;> intros <;> first | rfl | (exact absurd (by assumption) (Nat.not_lt_zero _)))
    | omega
    | decide
theorem n_f41_8 (v : V41) : f41_8 v := by
  unfold f41_8
  first
    | (intros; rfl)
    | (intro i; rfl)
    | (intro i _; rfl)
    | (intro _ i; rfl)
    | (intro _ i _; rfl)
    | (refine ⟨?_, ?_⟩ <;> intro i <;> rfl)
    | (refine ⟨?_, ?_, ?_⟩ <;> intro i <;> rfl)
    | (refine ⟨?_, ?_⟩ <;> intro i _ <;> rfl)
    | (repeat' apply And.intro) <;> first | (intro i; rfl) | (intro i _; rfl) | (intro i h; exact absurd h (Nat.not_lt_zero i)) | (intro i; exact scpL_rowSet (by rfl) (by rfl)) | (intro i; exact scpL_rowEl (by kernel_rfl) _)
    | (intros; (repeat' apply And.intro) <;> intros <;> first | rfl | (exact absurd (by assumption) (Nat.not_lt_zero _)))
    | omega
    | decide
noncomputable def ff41 (v : V41) : Tr (Fin th.R) := (Tr.need (f41_0 v) (Tr.need (f41_1 v) (Tr.need (f41_2 v) (Tr.need (f41_0 v) (Tr.need (f41_3 v) (Tr.need (f41_4 v) (Tr.need (f41_5 v) (Tr.need (f41_6 v) (Tr.need (f41_5 v) (Tr.ite (f41_7 v) (Tr.leaf (Prod.mk (SV.slc ((0:Nat)) ((2 : Nat)) ((0:Nat)) (v.L)) (Prod.mk (List.cons (HO.row ((27 : Nat)) ((2 : Nat)) (v.M) (fun j => (List.cons (SV.int (IntKind.u64) (v.F j)) (List.cons (SV.int (IntKind.u64) (v.G j)) [])))) []) []))) (Tr.need (f41_8 v) (Tr.leaf (Prod.mk (SV.slc ((0:Nat)) ((2 : Nat)) ((0:Nat)) (f41_9 v)) (Prod.mk (List.cons (HO.row ((27 : Nat)) ((2 : Nat)) (v.M) (fun j => (List.cons (SV.int (IntKind.u64) (f41_10 v j)) (List.cons (SV.int (IntKind.u64) (f41_11 v j)) [])))) []) (List.cons ((0:Nat)) (List.cons ((0:Nat)) []))))))))))))))))
noncomputable def f41 (v : V41) : Tr (Fin th.R) := (Tr.need (f41_2 v) (Tr.need (f41_4 v) (Tr.need (f41_5 v) (Tr.need (f41_6 v) (Tr.need (f41_5 v) (Tr.ite (f41_7 v) (Tr.leaf (Prod.mk (SV.slc ((0:Nat)) ((2 : Nat)) ((0:Nat)) (v.L)) (Prod.mk (List.cons (HO.row ((27 : Nat)) ((2 : Nat)) (v.M) (fun j => (List.cons (SV.int (IntKind.u64) (v.F j)) (List.cons (SV.int (IntKind.u64) (v.G j)) [])))) []) ([0])))) (Tr.leaf (Prod.mk (SV.slc ((0:Nat)) ((2 : Nat)) ((0:Nat)) (f41_9 v)) (Prod.mk (List.cons (HO.row ((27 : Nat)) ((2 : Nat)) (v.M) (fun j => (List.cons (SV.int (IntKind.u64) (f41_10 v j)) (List.cons (SV.int (IntKind.u64) (f41_11 v j)) [])))) []) ([0]))))))))))
noncomputable def C41 : CF th.R := fnC d41 ofV41 (f41 )
theorem q41 (v : V41) : (evFn th Try.prog (auto th Try.prog nice10n [] 20) (autoH [(5, L41_0)] [] [] [999998] : Hints th) 41) (A41 v) (H41 v) = some (ff41 v) := by kernel_rfl
theorem qg41 (v : V41) : ((ff41 v).map (setD [0])).get = (f41 v).get := by kernel_rfl
theorem qd41 (v : V41) : allD 1 [0] (ff41 v) = true := by kernel_rfl
theorem s41 : Sound Try.prog th 41 (C41 ) := fnC_sound (evFn_sound' (T := th) (P := Try.prog) (tbl := (auto th Try.prog nice10n [] 20)) (auto_sound (nice := nice10n) (us := []) nok10n 20) (H := (autoH [(5, L41_0)] [] [] [999998] : Hints th)) (k := 41) (fnLoops ok41)) d41 A41 H41 toV41 (by kernel_rfl) (fun v => by kernel_rfl)
  (fun l v h => by
    unfold ofV41 at h
    split at h
    · cases h; rfl
    · cases h)
  [0] (fun v => ⟨ff41 v, q41 v, fun h => by
    unfold f41 at h; unfold ff41
    simp only [Tr.ok, n_f41_0, n_f41_1, n_f41_3, n_f41_8, true_and, and_true, forall_const, implies_true] at h ⊢
    try exact h, qg41 v, qd41 v⟩)
theorem qdd41 (v : V41) : (f41 v).get.2.2 = [0] := by
  rw [← qg41, Tr.map_get]; rfl
end Go.Sx.S

section
namespace Go.Sx.So
def rgt (x : Sp) : Bool := decide (x.1 < x.2)
theorem rgt_iff {x : Sp} : rgt x = true ↔ x.1 < x.2 := by simp [rgt]
/-- The right ones of a stretch's first. -/
def flt (E : Nat → Sp) (n : Nat) : List Sp := (seg E 0 n).filter rgt
theorem seg_succ (E : Nat → Sp) (n : Nat) : seg E 0 (n + 1) = seg E 0 n ++ [E n] := by
  rw [seg_add, Nat.zero_add]; rfl
theorem flt_succ (E : Nat → Sp) (n : Nat) : flt E (n + 1) = flt E n ++ if rgt (E n) = true then [E n] else [] := by
  unfold flt
  rw [seg_succ, List.filter_append]
  congr 1
  by_cases h : rgt (E n) = true <;> simp [h]
theorem flt_zero (E : Nat → Sp) : flt E 0 = [] := rfl
theorem flt_length (E : Nat → Sp) (n : Nat) : (flt E n).length ≤ n := by
  have := List.length_filter_le rgt (seg E 0 n)
  rw [seg_length] at this
  exact this
theorem flt_all {E : Nat → Sp} {n : Nat} (h : ∀ j, j < n → rgt (E j) = true) : flt E n = seg E 0 n := by
  unfold flt
  refine List.filter_eq_self.2 fun x hx => ?_
  simp only [seg, List.mem_map, List.mem_range] at hx
  obtain ⟨i, hi, rfl⟩ := hx
  exact h _ (by omega)
/-- A list laid over a row. -/
def lay (l : List Sp) (L : Nat) (E : Nat → Sp) : Nat → Sp := fun j => if j < L then l.getD j (0, 0) else E j
theorem lay_seg {E : Nat → Sp} {L : Nat} : lay (seg E 0 L) L E = E := by
  funext j
  unfold lay
  split
  · rw [List.getD_eq_getElem?_getD, seg_get (by assumption)]
    simp
  · rfl
end Go.Sx.So

end

namespace Go.Sx.S
open Go Go.Sx Go.Proofs Go.RowKit
set_option maxRecDepth 100000
open So
theorem f42_rt (F G : Nat → Int) (j : Nat) : f42_0 (F j) (G j) = !rgt (sp F G j) := rfl
theorem l45 (L M : Nat) (F G : Nat → Int) (h : L ≤ M) (hL : L < 2305843009213693952) : f45_1 (V45.mk L M F G) ∧
    ((f45_2 (V45.mk L M F G) = -1 ∧ ∀ j, j < L → rgt (sp F G j) = true) ∨ ∃ i : Nat, f45_2 (V45.mk L M F G) = i ∧ i < L ∧ rgt (sp F G i) = false ∧ ∀ j, j < i → rgt (sp F G j) = true) := by
  have key : f45_1 (V45.mk L M F G) ∧ ∃ i : Nat, (f45z0 (V45.mk L M F G)).x8 = i ∧ i ≤ L ∧ (i < L → rgt (sp F G i) = false) ∧ ∀ j, j < i → rgt (sp F G j) = true := by
    unfold f45_1 f45z0
    refine LT.post (fun s : S45_0 => ∃ i : Nat, s.x8 = i ∧ i ≤ L ∧ ∀ j, j < i → rgt (sp F G j) = true) (fun s : S45_0 => ∃ i : Nat, s.x8 = i ∧ i ≤ L ∧ (i < L → rgt (sp F G i) = false) ∧ ∀ j, j < i → rgt (sp F G j) = true) (fun s : S45_0 => (L - s.x8).toNat) ?_ ?_
    rotate_left
    · exact ⟨0, rfl, Nat.zero_le _, fun j hj => by omega⟩
    rintro ⟨x⟩ ⟨i, g1, g2, g3⟩
    simp only at g1
    subst g1
    have w1 : IntKind.i64.wrap ((i : Int) + 1) = ((i + 1 : Nat) : Int) := by rw [wi (by omega) (by omega)]; omega
    simp only [r45_0, e45_0_0, e45_0_2, e45_0_3, e45_0_4, e45_0_6, Tr.ok, Tr.get, w1, Nat.zero_add, Int.toNat_natCast, f42_rt]
    by_cases hc : i < L
    · rw [show cnd (decide ((i : Int) < L)) false true = false from by rw [decide_eq_true (by omega)]; rfl]
      cases hr : rgt (sp F G i) with
      | true =>
        exact ⟨⟨(fun e => by cases e), fun _ => ⟨by omega, by omega, (fun e => by cases e), fun _ => trivial⟩⟩, .inr ⟨_, rfl, ⟨i + 1, rfl, hc, fun j hj => by
          rcases Nat.lt_succ_iff_lt_or_eq.1 hj with h | h
          · exact g3 j h
          · rw [h]; exact hr⟩, by simp only; omega⟩⟩
      | false =>
        exact ⟨⟨(fun e => by cases e), fun _ => ⟨by omega, by omega, fun _ => trivial, (fun e => by cases e)⟩⟩, .inl ⟨⟨_, _, _, rfl⟩, i, rfl, g2, fun _ => hr, g3⟩⟩
    · rw [show cnd (decide ((i : Int) < L)) false true = true from by rw [decide_eq_false (by omega)]; rfl]
      exact ⟨⟨fun _ => trivial, (fun e => by cases e)⟩, .inl ⟨⟨_, _, _, rfl⟩, i, rfl, g2, fun h => absurd h hc, g3⟩⟩
  obtain ⟨k1, i, k2, k3, k4, k5⟩ := key
  refine ⟨k1, ?_⟩
  simp only [f45_2, e45_0_0, k2]
  by_cases hc : i < L
  · rw [show cnd (cnd (decide ((i : Int) < L)) false true) false true = true from by rw [decide_eq_true (by omega)]; rfl]
    exact .inr ⟨i, rfl, hc, k4 hc, k5⟩
  · rw [show cnd (cnd (decide ((i : Int) < L)) false true) false true = false from by rw [decide_eq_false (by omega)]; rfl]
    exact .inl ⟨rfl, fun j hj => k5 j (by omega)⟩
theorem l41 {L M i0 : Nat} {F G : Nat → Int} (h : L ≤ M) (hL : L < 2305843009213693952) (h1 : i0 < L) (h2 : rgt (sp F G i0) = false) (h3 : ∀ j, j < i0 → rgt (sp F G j) = true) :
    LT (r41_0 (P41_0.mk L M)) (S41_0.mk i0 (i0 + 1 : Nat) F G) ∧ (fun s : S41_0 => s.x5 = ((flt (sp F G) L).length : Nat) ∧ ∀ k, (k < (flt (sp F G) L).length → some (sp s.F0_0 s.F0_1 k) = (flt (sp F G) L)[k]?) ∧ (L ≤ k → sp s.F0_0 s.F0_1 k = sp F G k)) (lastS (r41_0 (P41_0.mk L M)) (S41_0.mk i0 (i0 + 1 : Nat) F G)) := by
  refine LT.post (fun s : S41_0 => ∃ j : Nat, s.x6 = j ∧ j ≤ L ∧ s.x5 = ((flt (sp F G) j).length : Nat) ∧ (flt (sp F G) j).length < j ∧ ∀ k, (k < (flt (sp F G) j).length → some (sp s.F0_0 s.F0_1 k) = (flt (sp F G) j)[k]?) ∧ (j ≤ k → sp s.F0_0 s.F0_1 k = sp F G k))
    (fun s : S41_0 => s.x5 = ((flt (sp F G) L).length : Nat) ∧ ∀ k, (k < (flt (sp F G) L).length → some (sp s.F0_0 s.F0_1 k) = (flt (sp F G) L)[k]?) ∧ (L ≤ k → sp s.F0_0 s.F0_1 k = sp F G k)) (fun s : S41_0 => (L - s.x6).toNat) ?_ ?_
  rotate_left
  · have e : flt (sp F G) (i0 + 1) = seg (sp F G) 0 i0 := by rw [flt_succ, h2, flt_all h3]; simp
    refine ⟨i0 + 1, rfl, h1, by rw [e, seg_length], by rw [e, seg_length]; omega, fun k => ⟨fun hk => ?_, fun _ => rfl⟩⟩
    rw [e, seg_length] at hk
    rw [e, seg_get hk, Nat.zero_add]
  rintro ⟨x, y, F', G'⟩ ⟨j, g1, g2, g3, g4, g5⟩
  simp only at g1 g3 g5
  subst g1 g3
  have w1 : IntKind.i64.wrap ((j : Int) + 1) = ((j + 1 : Nat) : Int) := by rw [wi (by omega) (by omega)]; omega
  have w2 : IntKind.i64.wrap (((flt (sp F G) j).length : Int) + 1) = (((flt (sp F G) j).length + 1 : Nat) : Int) := by rw [wi (by omega) (by omega)]; omega
  have ej : sp F' G' j = sp F G j := (g5 j).2 (Nat.le_refl _)
  simp only [r41_0, e41_0_0, e41_0_2, e41_0_3, e41_0_4, e41_0_5, e41_0_6, e41_0_8, e41_0_9, Tr.ok, Tr.get, w1, w2, Nat.zero_add, Int.toNat_natCast, f42_rt, ej, Bool.not_not]
  by_cases hc : j < L
  · rw [show cnd (decide ((j : Int) < L)) false true = false from by rw [decide_eq_true (by omega)]; rfl]
    have hs := flt_succ (sp F G) j
    cases hr : rgt (sp F G j) with
    | true =>
      rw [hr] at hs
      simp only [if_true] at hs
      have hl : (flt (sp F G) (j + 1)).length = (flt (sp F G) j).length + 1 := by rw [hs]; simp
      refine ⟨⟨(fun e => by cases e), fun _ => ⟨by omega, by omega, fun _ => by omega, fun _ => ⟨by omega, trivial⟩, fun _ => trivial, (fun e => by cases e)⟩⟩, .inr ⟨_, rfl, ⟨j + 1, rfl, hc, by rw [hl], by omega, fun k => ?_⟩, by simp only; omega⟩⟩
      have e : sp (fun k => e41_0_10 (P41_0.mk L M) (S41_0.mk ((flt (sp F G) j).length : Nat) j F' G') k) (fun k => e41_0_11 (P41_0.mk L M) (S41_0.mk ((flt (sp F G) j).length : Nat) j F' G') k) k = if k = (flt (sp F G) j).length then sp F G j else sp F' G' k := by
        rw [← ej]
        simp only [sp, e41_0_10, e41_0_11, cndB, beqT, Nat.zero_add, Int.toNat_natCast]
        split <;> rfl
      rw [e]
      refine ⟨fun hk => ?_, fun hk => ?_⟩
      · rw [hl] at hk
        rw [hs]
        split
        · rename_i e2; subst e2
          simp
        · rw [List.getElem?_append_left (by omega)]
          exact (g5 k).1 (by omega)
      · rw [if_neg (by omega)]
        exact (g5 k).2 (by omega)
    | false =>
      rw [hr] at hs
      simp only [Bool.false_eq_true, if_false, List.append_nil] at hs
      refine ⟨⟨(fun e => by cases e), fun _ => ⟨by omega, by omega, (fun e => by cases e), (fun e => by cases e), (fun e => by cases e), fun _ => trivial⟩⟩, .inr ⟨_, rfl, ⟨j + 1, rfl, hc, by rw [hs], by rw [hs]; omega, fun k => ?_⟩, by simp only; omega⟩⟩
      rw [hs]
      exact ⟨(g5 k).1, fun hk => (g5 k).2 (by omega)⟩
  · rw [show cnd (decide ((j : Int) < L)) false true = true from by rw [decide_eq_false (by omega)]; rfl]
    have : j = L := by omega
    subst this
    exact ⟨⟨fun _ => trivial, (fun e => by cases e)⟩, .inl ⟨⟨_, _, _, rfl⟩, rfl, g5⟩⟩
def pre41 (v : V41) : Prop := v.L ≤ v.M ∧ v.L < 2305843009213693952
noncomputable def rowQ (M : Nat) (E : Nat → Sp) : HO th.R := .row 27 2 M (fun j => [.int .u64 (E j).1, .int .u64 (E j).2])
theorem n41 (v : V41) (h : pre41 v) : (f41 v).ok ∧ (f41 v).get.1 = .slc 0 2 0 (flt (sp v.F v.G) v.L).length ∧ HOws (f41 v).get.2.1 [rowQ v.M (lay (flt (sp v.F v.G) v.L) v.L (sp v.F v.G))] := by
  obtain ⟨L, M, F, G⟩ := v
  obtain ⟨h1, h2⟩ := h
  simp only at h1 h2 ⊢
  obtain ⟨k1, ⟨k2, k3⟩ | ⟨i, k2, k3, k4, k5⟩⟩ := l45 L M F G h1 h2
  · have e : (f45_2 (V45.mk L M F G) == -1) = true := by rw [k2]; rfl
    refine ⟨?_, ?_⟩
    · simp only [f41, Tr.ok, f41_2, f41_4, f41_5, f41_6, f41_7, e, Bool.true_eq_false, false_implies, implies_true, and_true]
      exact k1
    · simp only [f41, Tr.get, f41_7, e, flt_all k3, seg_length, true_and]
      rw [lay_seg]
      exact .refl _
  · have e : (f45_2 (V45.mk L M F G) == -1) = false := by rw [k2, beq_eq_false_iff_ne]; omega
    have w1 : IntKind.i64.wrap ((i : Int) + 1) = ((i + 1 : Nat) : Int) := by rw [wi (by omega) (by omega)]; omega
    obtain ⟨q1, q2, q3⟩ := l41 (L := L) (M := M) h1 h2 k3 k4 k5
    have hz : f41z0 (V41.mk L M F G) = lastS (r41_0 (P41_0.mk L M)) (S41_0.mk i (i + 1 : Nat) F G) := by
      unfold f41z0
      simp only [k2, w1]
    rw [← hz] at q2 q3
    have hlen := flt_length (sp F G) L
    refine ⟨?_, ?_⟩
    · simp only [f41, Tr.ok, f41_2, f41_4, f41_5, f41_6, f41_7, e, forall_const, implies_true, and_true, q2]
      rw [k2, w1]
      exact ⟨k1, q1, by omega, by simp only [Nat.zero_add, Int.toNat_natCast]; omega, by omega⟩
    · simp only [f41, Tr.get, f41_7, e, f41_9, q2, Int.toNat_natCast, true_and]
      refine .cons (.row fun j hj => ?_) .nil
      simp only [f41_10, f41_11, q2, Int.toNat_natCast, Nat.zero_add]
      have hcnd : cnd (j.blt (flt (sp F G) L).length) false (j.blt ((flt (sp F G) L).length + (L - (flt (sp F G) L).length))) = decide ((flt (sp F G) L).length ≤ j ∧ j < L) := by
        rw [show (flt (sp F G) L).length + (L - (flt (sp F G) L).length) = L by omega, Bool.eq_iff_iff, cndB, decide_eq_true_eq]
        split
        · rename_i h; rw [bltT] at h; simp; omega
        · rename_i h; rw [bltT] at h ⊢; omega
      rw [hcnd]
      simp only [cndB, decide_eq_true_eq]
      obtain ⟨a1, a2⟩ := q3 j
      simp only [lay]
      by_cases c1 : j < (flt (sp F G) L).length
      · have := a1 c1
        rw [if_neg (by omega), if_neg (by omega), if_pos (by omega), List.getD_eq_getElem?_getD, ← this]
        rfl
      · by_cases c2 : j < L
        · rw [if_pos (by omega), if_pos (by omega), if_pos c2, List.getD_eq_getElem?_getD, List.getElem?_eq_none (by omega)]
          rfl
        · rw [if_neg (by omega), if_neg (by omega), if_neg c2, ← a2 (by omega)]
          rfl
noncomputable def f41n (v : V41) : Tr (Fin th.R) := .need (pre41 v) (.leaf (.slc 0 2 0 (So.flt (sp v.F v.G) v.L).length, [rowQ v.M (So.lay (So.flt (sp v.F v.G) v.L) v.L (sp v.F v.G))], [0]))
theorem s41n : Sound Try.prog th 41 (fnC d41 ofV41 f41n) := fnC_refine s41 fun v h => by
  obtain ⟨hp, _⟩ := h
  obtain ⟨a, b, c⟩ := n41 v hp
  exact ⟨a, b.symm, (qdd41 v).symm, c, by show 1 ≤ 1; decide⟩
noncomputable def nice41n : List (Nat × CF th.R) := (41, lift (fnC d41 ofV41 f41n)) :: nice10n
theorem nok41n : NiceOk Try.prog th nice41n := ⟨lift_sound s41n, nok10n⟩
end Go.Sx.S

namespace Go.Sx.S
open Go Go.Sx Go.Proofs Go.RowKit
set_option maxRecDepth 100000
structure V36 where
  L : Nat
  M : Nat
  ob : Obj
  F : Nat → Int
  G : Nat → Int
def A36 (v : V36) : List SV := [.slc 0 2 0 v.L]
def H36 (v : V36) : List (HO th.R) := [.ro 27 2 v.M (fun j => [.int .u64 (v.F j), .int .u64 (v.G j)]) v.ob]
def toV36 (v : V36) : List (Vl th.R) := [.n v.L, .n v.M, .o v.ob, .c v.F, .c v.G]
def ofV36 : List (Vl th.R) → Option V36
  | [.n L, .n M, .o ob, .c F, .c G] => some ⟨L, M, ob, F, G⟩
  | _ => none
def d36 : Ft := ⟨[.slc0 0 2], [.roc 27 [.int .u64, .int .u64]]⟩
noncomputable def f36_0 (v : V36) : (Prop) := ∀ (i : Nat), scpL (0:Nat) ((fun (j : Nat) => [SV.int IntKind.u64 (v.F j), SV.int IntKind.u64 (v.G j)]) i) = true
noncomputable def f36_1 (v : V36) : (Prop) := ∀ (i : Nat), i < v.M → (fun (j : Nat) => [SV.int IntKind.u64 (v.F j), SV.int IntKind.u64 (v.G j)]) i = elC (fun (j : Nat) => [SV.int IntKind.u64 (v.F j), SV.int IntKind.u64 (v.G j)]) (0:Nat) [Ck.int IntKind.u64, Ck.int IntKind.u64] i
noncomputable def f36_2 (v : V36) : (Prop) := pre10 (V10.mk v.L v.M v.ob v.F v.G)
noncomputable def f36_3 (v : V36) : (Prop) := (∀ (i : Nat), scpL (0:Nat) ((fun (j : Nat) => [SV.int IntKind.u64 (v.F j), SV.int IntKind.u64 (v.G j)]) i) = true) ∧ ∀ (i : Nat), scpL (0:Nat) ((fun (j : Nat) => [SV.int IntKind.u64 (So.srt (sp v.F v.G) (0:Nat) v.L j).fst, SV.int IntKind.u64 (So.srt (sp v.F v.G) (0:Nat) v.L j).snd]) i) = true
noncomputable def f36_4 (v : V36) : (Prop) := ∀ (i : Nat), scpL (0:Nat) ((fun (j : Nat) => [SV.int IntKind.u64 (So.srt (sp v.F v.G) (0:Nat) v.L j).fst, SV.int IntKind.u64 (So.srt (sp v.F v.G) (0:Nat) v.L j).snd]) i) = true
noncomputable def f36_5 (v : V36) : (Prop) := ∀ (i : Nat), i < v.L → (fun (j : Nat) => [SV.int IntKind.u64 (So.srt (sp v.F v.G) (0:Nat) v.L j).fst, SV.int IntKind.u64 (So.srt (sp v.F v.G) (0:Nat) v.L j).snd]) i = elC (fun (j : Nat) => [SV.int IntKind.u64 (So.srt (sp v.F v.G) (0:Nat) v.L j).fst, SV.int IntKind.u64 (So.srt (sp v.F v.G) (0:Nat) v.L j).snd]) (0:Nat) [Ck.int IntKind.u64, Ck.int IntKind.u64] i
noncomputable def f36_6 (v : V36) : (Prop) := pre41 (V41.mk v.L v.L (fun (j : Nat) => (So.srt (sp v.F v.G) (0:Nat) v.L j).fst) fun (j : Nat) => (So.srt (sp v.F v.G) (0:Nat) v.L j).snd)
noncomputable def f36_7 (v : V36) : (Prop) := ∀ (i : Nat), scpL (0:Nat) ((fun (j : Nat) => [SV.int IntKind.u64 (So.lay (So.flt (sp (fun (j : Nat) => (So.srt (sp v.F v.G) (0:Nat) v.L j).fst) fun (j : Nat) => (So.srt (sp v.F v.G) (0:Nat) v.L j).snd) v.L) v.L (sp (fun (j : Nat) => (So.srt (sp v.F v.G) (0:Nat) v.L j).fst) fun (j : Nat) => (So.srt (sp v.F v.G) (0:Nat) v.L j).snd) j).fst, SV.int IntKind.u64 (So.lay (So.flt (sp (fun (j : Nat) => (So.srt (sp v.F v.G) (0:Nat) v.L j).fst) fun (j : Nat) => (So.srt (sp v.F v.G) (0:Nat) v.L j).snd) v.L) v.L (sp (fun (j : Nat) => (So.srt (sp v.F v.G) (0:Nat) v.L j).fst) fun (j : Nat) => (So.srt (sp v.F v.G) (0:Nat) v.L j).snd) j).snd]) i) = true
noncomputable def f36_8 (v : V36) : (Nat) := (So.flt (sp (fun (j : Nat) => (So.srt (sp v.F v.G) (0:Nat) v.L j).fst) fun (j : Nat) => (So.srt (sp v.F v.G) (0:Nat) v.L j).snd) v.L).length
noncomputable def f36_9 (v : V36) : Nat → (Int) := fun j => (So.lay (So.flt (sp (fun (j : Nat) => (So.srt (sp v.F v.G) (0:Nat) v.L j).fst) fun (j : Nat) => (So.srt (sp v.F v.G) (0:Nat) v.L j).snd) v.L) v.L (sp (fun (j : Nat) => (So.srt (sp v.F v.G) (0:Nat) v.L j).fst) fun (j : Nat) => (So.srt (sp v.F v.G) (0:Nat) v.L j).snd) j).fst
noncomputable def f36_10 (v : V36) : Nat → (Int) := fun j => (So.lay (So.flt (sp (fun (j : Nat) => (So.srt (sp v.F v.G) (0:Nat) v.L j).fst) fun (j : Nat) => (So.srt (sp v.F v.G) (0:Nat) v.L j).snd) v.L) v.L (sp (fun (j : Nat) => (So.srt (sp v.F v.G) (0:Nat) v.L j).fst) fun (j : Nat) => (So.srt (sp v.F v.G) (0:Nat) v.L j).snd) j).snd
theorem n_f36_0 (v : V36) : f36_0 v := by
  unfold f36_0
  first
    | (intros; rfl)
    | (intro i; rfl)
    | (intro i _; rfl)
    | (intro _ i; rfl)
    | (intro _ i _; rfl)
    | (refine ⟨?_, ?_⟩ <;> intro i <;> rfl)
    | (refine ⟨?_, ?_, ?_⟩ <;> intro i <;> rfl)
    | (refine ⟨?_, ?_⟩ <;> intro i _ <;> rfl)
    | (repeat' apply And.intro) <;> first | (intro i; rfl) | (intro i _; rfl) | (intro i h; exact absurd h (Nat.not_lt_zero i)) | (intro i; exact scpL_rowSet (by rfl) (by rfl)) | (intro i; exact scpL_rowEl (by kernel_rfl) _)
    | (intros; (repeat' apply And.intro) <;> intros <;> first | rfl | (exact absurd (by assumption) (Nat.not_lt_zero _)))
    | omega
    | decide
theorem n_f36_1 (v : V36) : f36_1 v := by
  unfold f36_1
  first
    | (intros; rfl)
    | (intro i; rfl)
    | (intro i _; rfl)
    | (intro _ i; rfl)
    | (intro _ i _; rfl)
    | (refine ⟨?_, ?_⟩ <;> intro i <;> rfl)
    | (refine ⟨?_, ?_, ?_⟩ <;> intro i <;> rfl)
    | (refine ⟨?_, ?_⟩ <;> intro i _ <;> rfl)
    | (repeat' apply And.intro) <;> first | (intro i; rfl) | (intro i _; rfl) | (intro i h; exact absurd h (Nat.not_lt_zero i)) | (intro i; exact scpL_rowSet (by rfl) (by rfl)) | (intro i; exact scpL_rowEl (by kernel_rfl) _)
    | (intros; (repeat' apply And.intro) <;> intros <;> first | rfl | (exact absurd (by assumption) (Nat.not_lt_zero _)))
    | omega
    | decide
theorem n_f36_3 (v : V36) : f36_3 v := by
  unfold f36_3
  first
    | (intros; rfl)
    | (intro i; rfl)
    | (intro i _; rfl)
    | (intro _ i; rfl)
    | (intro _ i _; rfl)
    | (refine ⟨?_, ?_⟩ <;> intro i <;> rfl)
    | (refine ⟨?_, ?_, ?_⟩ <;> intro i <;> rfl)
    | (refine ⟨?_, ?_⟩ <;> intro i _ <;> rfl)
    | (repeat' apply And.intro) <;> first | (intro i; rfl) | (intro i _; rfl) | (intro i h; exact absurd h (Nat.not_lt_zero i)) | (intro i; exact scpL_rowSet (by rfl) (by rfl)) | (intro i; exact scpL_rowEl (by kernel_rfl) _)
    | (intros; (repeat' apply And.intro) <;> intros <;> first | rfl | (exact absurd (by assumption) (Nat.not_lt_zero _)))
    | omega
    | decide
theorem n_f36_4 (v : V36) : f36_4 v := by
  unfold f36_4
  first
    | (intros; rfl)
    | (intro i; rfl)
    | (intro i _; rfl)
    | (intro _ i; rfl)
    | (intro _ i _; rfl)
    | (refine ⟨?_, ?_⟩ <;> intro i <;> rfl)
    | (refine ⟨?_, ?_, ?_⟩ <;> intro i <;> rfl)
    | (refine ⟨?_, ?_⟩ <;> intro i _ <;> rfl)
    | (repeat' apply And.intro) <;> first | (intro i; rfl) | (intro i _; rfl) | (intro i h; exact absurd h (Nat.not_lt_zero i)) | (intro i; exact scpL_rowSet (by rfl) (by rfl)) | (intro i; exact scpL_rowEl (by kernel_rfl) _)
    | (intros; (repeat' apply And.intro) <;> intros <;> first | rfl | (exact absurd (by assumption) (Nat.not_lt_zero _)))
    | omega
    | decide
theorem n_f36_5 (v : V36) : f36_5 v := by
  unfold f36_5
  first
    | (intros; rfl)
    | (intro i; rfl)
    | (intro i _; rfl)
    | (intro _ i; rfl)
    | (intro _ i _; rfl)
    | (refine ⟨?_, ?_⟩ <;> intro i <;> rfl)
    | (refine ⟨?_, ?_, ?_⟩ <;> intro i <;> rfl)
    | (refine ⟨?_, ?_⟩ <;> intro i _ <;> rfl)
    | (repeat' apply And.intro) <;> first | (intro i; rfl) | (intro i _; rfl) | (intro i h; exact absurd h (Nat.not_lt_zero i)) | (intro i; exact scpL_rowSet (by rfl) (by rfl)) | (intro i; exact scpL_rowEl (by kernel_rfl) _)
    | (intros; (repeat' apply And.intro) <;> intros <;> first | rfl | (exact absurd (by assumption) (Nat.not_lt_zero _)))
    | omega
    | decide
theorem n_f36_7 (v : V36) : f36_7 v := by
  unfold f36_7
  first
    | (intros; rfl)
    | (intro i; rfl)
    | (intro i _; rfl)
    | (intro _ i; rfl)
    | (intro _ i _; rfl)
    | (refine ⟨?_, ?_⟩ <;> intro i <;> rfl)
    | (refine ⟨?_, ?_, ?_⟩ <;> intro i <;> rfl)
    | (refine ⟨?_, ?_⟩ <;> intro i _ <;> rfl)
    | (repeat' apply And.intro) <;> first | (intro i; rfl) | (intro i _; rfl) | (intro i h; exact absurd h (Nat.not_lt_zero i)) | (intro i; exact scpL_rowSet (by rfl) (by rfl)) | (intro i; exact scpL_rowEl (by kernel_rfl) _)
    | (intros; (repeat' apply And.intro) <;> intros <;> first | rfl | (exact absurd (by assumption) (Nat.not_lt_zero _)))
    | omega
    | decide
noncomputable def ff36 (v : V36) : Tr (Fin th.R) := (Tr.need (f36_0 v) (Tr.need (f36_1 v) (Tr.need (f36_2 v) (Tr.need (f36_3 v) (Tr.need (f36_4 v) (Tr.need (f36_5 v) (Tr.need (f36_6 v) (Tr.need (f36_7 v) (Tr.leaf (Prod.mk (SV.slc (1) ((2 : Nat)) ((0:Nat)) (f36_8 v)) (Prod.mk (List.cons (HO.ro ((27 : Nat)) ((2 : Nat)) (v.M) (fun j => (List.cons (SV.int (IntKind.u64) (v.F j)) (List.cons (SV.int (IntKind.u64) (v.G j)) []))) (v.ob)) (List.cons (HO.row ((27 : Nat)) ((2 : Nat)) (v.L) (fun j => (List.cons (SV.int (IntKind.u64) (f36_9 v j)) (List.cons (SV.int (IntKind.u64) (f36_10 v j)) [])))) [])) (List.cons (1) []))))))))))))
noncomputable def f36 (v : V36) : Tr (Fin th.R) := (Tr.need (f36_2 v) (Tr.need (f36_6 v) (Tr.leaf (Prod.mk (SV.slc (1) ((2 : Nat)) ((0:Nat)) (f36_8 v)) (Prod.mk (List.cons (HO.ro ((27 : Nat)) ((2 : Nat)) (v.M) (fun j => (List.cons (SV.int (IntKind.u64) (v.F j)) (List.cons (SV.int (IntKind.u64) (v.G j)) []))) (v.ob)) (List.cons (HO.row ((27 : Nat)) ((2 : Nat)) (v.L) (fun j => (List.cons (SV.int (IntKind.u64) (f36_9 v j)) (List.cons (SV.int (IntKind.u64) (f36_10 v j)) [])))) [])) ([]))))))
noncomputable def C36 : CF th.R := fnC d36 ofV36 (f36 )
theorem q36 (v : V36) : (evFn th Try.prog (auto th Try.prog nice41n [] 20) (autoH [] [] [] [] : Hints th) 36) (A36 v) (H36 v) = some (ff36 v) := by kernel_rfl
theorem qg36 (v : V36) : ((ff36 v).map (setD [])).get = (f36 v).get := by kernel_rfl
theorem qd36 (v : V36) : allD 1 [] (ff36 v) = true := by kernel_rfl
theorem s36 : Sound Try.prog th 36 (C36 ) := fnC_sound (evFn_sound' (T := th) (P := Try.prog) (tbl := (auto th Try.prog nice41n [] 20)) (auto_sound (nice := nice41n) (us := []) nok41n 20) (H := (autoH [] [] [] [] : Hints th)) (k := 36) (fnLoops (LoopsOk_mem (fun _ => rfl) _ fun _ _ _ e => by cases e))) d36 A36 H36 toV36 (by kernel_rfl) (fun v => by kernel_rfl)
  (fun l v h => by
    unfold ofV36 at h
    split at h
    · cases h; rfl
    · cases h)
  [] (fun v => ⟨ff36 v, q36 v, fun h => by
    unfold f36 at h; unfold ff36
    simp only [Tr.ok, n_f36_0, n_f36_1, n_f36_3, n_f36_4, n_f36_5, n_f36_7, true_and, and_true, forall_const, implies_true] at h ⊢
    try exact h, qg36 v, qd36 v⟩)
theorem qdd36 (v : V36) : (f36 v).get.2.2 = [] := by
  rw [← qg36, Tr.map_get]; rfl
end Go.Sx.S

namespace Go.Sx.S
open Go Go.Sx Go.Proofs Go.RowKit
set_option maxRecDepth 100000
open So
def pre36 (v : V36) : Prop := v.L ≤ v.M ∧ v.L ≤ 30000000000
/-- The right ones in their order. -/
noncomputable def RS (E : Nat → Sp) (L : Nat) : List Sp := flt (srt E 0 L) L
noncomputable def RSr (E : Nat → Sp) (L : Nat) : Nat → Sp := lay (RS E L) L (srt E 0 L)
theorem n36 (v : V36) (h : pre36 v) : (f36 v).ok ∧ (f36 v).get.1 = .slc 1 2 0 (RS (sp v.F v.G) v.L).length ∧ HOws (f36 v).get.2.1 [HO.ro 27 2 v.M (fun j => [SV.int .u64 (v.F j), SV.int .u64 (v.G j)]) v.ob, rowQ v.L (RSr (sp v.F v.G) v.L)] := by
  obtain ⟨h1, h2⟩ := h
  exact ⟨⟨⟨h1, h2⟩, ⟨Nat.le_refl _, by simp only; omega⟩, trivial⟩, rfl, .refl _⟩
noncomputable def f36n (v : V36) : Tr (Fin th.R) := .need (pre36 v) (.leaf (.slc 1 2 0 (RS (sp v.F v.G) v.L).length, [.ro 27 2 v.M (fun j => [.int .u64 (v.F j), .int .u64 (v.G j)]) v.ob, rowQ v.L (RSr (sp v.F v.G) v.L)], []))
theorem s36n : Sound Try.prog th 36 (fnC d36 ofV36 f36n) := fnC_refine s36 fun v h => by
  obtain ⟨hp, _⟩ := h
  obtain ⟨a, b, c⟩ := n36 v hp
  exact ⟨a, b.symm, (qdd36 v).symm, c, by show 1 ≤ 2; decide⟩
structure V36w where
  L : Nat
  M : Nat
  F : Nat → Int
  G : Nat → Int
def inj36 (v : V36w) (o : Obj) : V36 := ⟨v.L, v.M, o, v.F, v.G⟩
def A36w (v : V36w) : List SV := [.slc 0 2 0 v.L]
def H36w (v : V36w) : List (HO th.R) := [.row 27 2 v.M (fun j => [.int .u64 (v.F j), .int .u64 (v.G j)])]
def toV36w (v : V36w) : List (Vl th.R) := [.n v.L, .n v.M, .c v.F, .c v.G]
def ofV36w : List (Vl th.R) → Option V36w
  | [.n L, .n M, .c F, .c G] => some ⟨L, M, F, G⟩
  | _ => none
def d36w : Ft := ⟨[.slc0 0 2], [.rowc 27 [.int .u64, .int .u64]]⟩
noncomputable def f36w (v : V36w) : Tr (Fin th.R) := .need (pre36 (inj36 v (.cells #[] 0))) (.leaf (.slc 1 2 0 (RS (sp (inj36 v (.cells #[] 0)).F (inj36 v (.cells #[] 0)).G) (inj36 v (.cells #[] 0)).L).length, [.row 27 2 v.M (fun j => [.int .u64 (v.F j), .int .u64 (v.G j)]), rowQ (inj36 v (.cells #[] 0)).L (RSr (sp (inj36 v (.cells #[] 0)).F (inj36 v (.cells #[] 0)).G) (inj36 v (.cells #[] 0)).L)], []))
theorem cw36 (v : V36w) (o : Obj) : fnC d36 ofV36 f36n (A36 (inj36 v o)) (H36 (inj36 v o)) = some (.need (∀ i, i < v.M → (fun j => [.int .u64 (v.F j), .int .u64 (v.G j)] : Nat → List SV) i = elC (fun j => [.int .u64 (v.F j), .int .u64 (v.G j)] : Nat → List SV) 0 [.int .u64, .int .u64] i) ((f36n (inj36 v o)).map (fixF (H36 (inj36 v o))))) := by kernel_rfl
theorem s36w : Sound Try.prog th 36 (fnC d36w ofV36w f36w) := by
  refine fnC_direct (T := th) d36w A36w H36w toV36w (by kernel_rfl) (fun v => by kernel_rfl) ?_ ?_ (fun v _ => Nat.le_add_left _ _) (fun v _ n hn _ => ?_)
  · intro l v h
    unfold ofV36w at h
    split at h
    · cases h; rfl
    · cases h
  · intro v hok K w0 ρ w vargs I hr
    obtain ⟨hp, _⟩ := hok
    exact ro_row (tl := [rowQ (inj36 v (.cells #[] 0)).L (RSr (sp (inj36 v (.cells #[] 0)).F (inj36 v (.cells #[] 0)).G) (inj36 v (.cells #[] 0)).L)]) (val := .slc 1 2 0 (RS (sp (inj36 v (.cells #[] 0)).F (inj36 v (.cells #[] 0)).G) (inj36 v (.cells #[] 0)).L).length) (fun o K w0 ρ w vargs I hr => fnC_out s36n (cw36 v o) ⟨fun i _ => rfl, hp, trivial⟩ I hr) I hr
  · have hn : n < 1 := hn
    have : n = 0 := by omega
    subst this; rfl
noncomputable def nice36n : List (Nat × CF th.R) := (36, lift (orC (fnC d36 ofV36 f36n) (fnC d36w ofV36w f36w))) :: nice41n
theorem nok36n : NiceOk Try.prog th nice36n := ⟨lift_sound (orC_sound s36n s36w), nok41n⟩
end Go.Sx.S

namespace Go.Sx.S
open Go Go.Sx Go.Proofs Go.RowKit
set_option maxRecDepth 100000
structure V20 where
  L : Nat
  M : Nat
  ob : Obj
  F : Nat → Int
  G : Nat → Int
def A20 (v : V20) : List SV := [.slc 0 2 0 v.L]
def H20 (v : V20) : List (HO th.R) := [.ro 27 2 v.M (fun j => [.int .u64 (v.F j), .int .u64 (v.G j)]) v.ob]
def toV20 (v : V20) : List (Vl th.R) := [.n v.L, .n v.M, .o v.ob, .c v.F, .c v.G]
def ofV20 : List (Vl th.R) → Option V20
  | [.n L, .n M, .o ob, .c F, .c G] => some ⟨L, M, ob, F, G⟩
  | _ => none
def d20 : Ft := ⟨[.slc0 0 2], [.roc 27 [.int .u64, .int .u64]]⟩
structure P20_0 where
  n0 : Nat
  b2 : Bool
  n3 : Nat
  N0 : Nat
  O0 : Obj
  F0_0 : Nat → Int
  F0_1 : Nat → Int
  N1 : Nat
  F1_0 : Nat → Int
  F1_1 : Nat → Int
structure S20_0 where
  x4 : Int
instance : Inhabited S20_0 := ⟨⟨0⟩⟩
def I20_0 (p : P20_0) (s : S20_0) : St th.R := ⟨[some (.slc 0 2 0 p.n0), none, some (.bool p.b2), some (.slc 1 2 0 p.n3), some (.int .i64 s.x4), none, none, none, none, none, none, none, none, none, none, none, none, none, none, none, none, none, none, none, none, none, none, none], [.ro 27 2 p.N0 (fun j => [.int .u64 (p.F0_0 j), .int .u64 (p.F0_1 j)]) p.O0, .row 27 2 p.N1 (fun j => [.int .u64 (p.F1_0 j), .int .u64 (p.F1_1 j)])], [], []⟩
def d20_0 : Lp := ⟨⟨28, [(0, .slc0 0 2), (2, .bool), (3, .slc0 1 2), (4, .int .i64)], [.roc 27 [.int .u64, .int .u64], .rowc 27 [.int .u64, .int .u64]]⟩, [], 2, [], [0, 2, 3], []⟩
def toV20_0 (p : P20_0) (s : S20_0) : List (Vl th.R) := [.n p.n0, .b p.b2, .n p.n3, .i s.x4, .n p.N0, .o p.O0, .c p.F0_0, .c p.F0_1, .n p.N1, .c p.F1_0, .c p.F1_1]
def ofV20_0 : List (Vl th.R) → Option (P20_0 × S20_0)
  | [.n n0, .b b2, .n n3, .i x4, .n N0, .o O0, .c F0_0, .c F0_1, .n N1, .c F1_0, .c F1_1] => some (⟨n0, b2, n3, N0, O0, F0_0, F0_1, N1, F1_0, F1_1⟩, ⟨x4⟩)
  | _ => none
noncomputable def e20_0_0 (p : P20_0) (s : S20_0) : (Bool) := cnd (decide (s.x4 < (↑p.n3 : Int))) false true
noncomputable def e20_0_1 (p : P20_0) (s : S20_0) : (Prop) := (∀ (i : Nat), scpL (0:Nat) ((fun (j : Nat) => [SV.int IntKind.u64 (p.F0_0 j), SV.int IntKind.u64 (p.F0_1 j)]) i) = true) ∧ ∀ (i : Nat), scpL (0:Nat) ((fun (j : Nat) => [SV.int IntKind.u64 (p.F1_0 j), SV.int IntKind.u64 (p.F1_1 j)]) i) = true
noncomputable def e20_0_2 (p : P20_0) (s : S20_0) : (Prop) := (true = true → (0 : Int) ≤ IntKind.i64.wrap (s.x4 - (1 : Int)) ∧ IntKind.i64.wrap (s.x4 - (1 : Int)) < (↑p.n3 : Int)) ∧ (true = true → (0:Nat) + (IntKind.i64.wrap (s.x4 - (1 : Int))).toNat < p.N1) ∧ (true = true → (0 : Int) ≤ s.x4 ∧ s.x4 < (↑p.n3 : Int)) ∧ (true = true → (0:Nat) + s.x4.toNat < p.N1)
noncomputable def e20_0_3 (p : P20_0) (s : S20_0) : (Bool) := f13_0 (p.F1_0 ((0:Nat) + (IntKind.i64.wrap (s.x4 - (1 : Int))).toNat)) (p.F1_1 ((0:Nat) + (IntKind.i64.wrap (s.x4 - (1 : Int))).toNat)) (p.F1_0 ((0:Nat) + s.x4.toNat)) (p.F1_1 ((0:Nat) + s.x4.toNat))
noncomputable def e20_0_4 (p : P20_0) (s : S20_0) : (Prop) := ((∀ (i : Nat), scpL (0:Nat) ((fun (j : Nat) => [SV.int IntKind.u64 (p.F0_0 j), SV.int IntKind.u64 (p.F0_1 j)]) i) = true) ∧ ∀ (i : Nat), scpL (0:Nat) ((fun (j : Nat) => [SV.int IntKind.u64 (p.F1_0 j), SV.int IntKind.u64 (p.F1_1 j)]) i) = true) ∧ (∀ (i : Nat), i < p.N0 → (fun (j : Nat) => [SV.int IntKind.u64 (p.F0_0 j), SV.int IntKind.u64 (p.F0_1 j)]) i = elC (fun (j : Nat) => [SV.int IntKind.u64 (p.F0_0 j), SV.int IntKind.u64 (p.F0_1 j)]) (0:Nat) [Ck.int IntKind.u64, Ck.int IntKind.u64] i) ∧ ∀ (i : Nat), i < p.N1 → (fun (j : Nat) => [SV.int IntKind.u64 (p.F1_0 j), SV.int IntKind.u64 (p.F1_1 j)]) i = elC (fun (j : Nat) => [SV.int IntKind.u64 (p.F1_0 j), SV.int IntKind.u64 (p.F1_1 j)]) (0:Nat) [Ck.int IntKind.u64, Ck.int IntKind.u64] i
noncomputable def e20_0_5 (p : P20_0) (s : S20_0) : (Int) := IntKind.i64.wrap (s.x4 + (1 : Int))
theorem n_e20_0_1 (p : P20_0) (s : S20_0) : e20_0_1 p s := by
  unfold e20_0_1
  first
    | (intros; rfl)
    | (intro i; rfl)
    | (intro i _; rfl)
    | (intro _ i; rfl)
    | (intro _ i _; rfl)
    | (refine ⟨?_, ?_⟩ <;> intro i <;> rfl)
    | (refine ⟨?_, ?_, ?_⟩ <;> intro i <;> rfl)
    | (refine ⟨?_, ?_⟩ <;> intro i _ <;> rfl)
    | (repeat' apply And.intro) <;> first | (intro i; rfl) | (intro i _; rfl) | (intro i h; exact absurd h (Nat.not_lt_zero i)) | (intro i; exact scpL_rowSet (by rfl) (by rfl)) | (intro i; exact scpL_rowEl (by kernel_rfl) _)
    | (intros; (repeat' apply And.intro) <;> intros <;> first | rfl | (exact absurd (by assumption) (Nat.not_lt_zero _)))
    | omega
    | decide
theorem n_e20_0_4 (p : P20_0) (s : S20_0) : e20_0_4 p s := by
  unfold e20_0_4
  first
    | (intros; rfl)
    | (intro i; rfl)
    | (intro i _; rfl)
    | (intro _ i; rfl)
    | (intro _ i _; rfl)
    | (refine ⟨?_, ?_⟩ <;> intro i <;> rfl)
    | (refine ⟨?_, ?_, ?_⟩ <;> intro i <;> rfl)
    | (refine ⟨?_, ?_⟩ <;> intro i _ <;> rfl)
    | (repeat' apply And.intro) <;> first | (intro i; rfl) | (intro i _; rfl) | (intro i h; exact absurd h (Nat.not_lt_zero i)) | (intro i; exact scpL_rowSet (by rfl) (by rfl)) | (intro i; exact scpL_rowEl (by kernel_rfl) _)
    | (intros; (repeat' apply And.intro) <;> intros <;> first | rfl | (exact absurd (by assumption) (Nat.not_lt_zero _)))
    | omega
    | decide
noncomputable def rf20_0 (p : P20_0) (s : S20_0) : Tr (Rs th.R S20_0) := (Tr.ite (e20_0_0 p s) (Tr.need (e20_0_1 p s) (Tr.leaf (Rs.out (Ex.exit ((0:Nat))) (List.cons (Option.some (SV.slc ((0:Nat)) ((2 : Nat)) ((0:Nat)) (p.n0))) (none :: (List.cons (Option.some (SV.bool (p.b2))) (List.cons (Option.some (SV.slc ((1 : Nat)) ((2 : Nat)) ((0:Nat)) (p.n3))) (none :: (none :: (none :: (none :: (none :: (none :: (none :: (none :: (none :: (none :: (none :: (none :: (none :: (none :: (none :: (none :: (none :: (none :: (none :: (none :: (none :: (none :: (none :: (none :: [])))))))))))))))))))))))))))) (List.cons (HO.ro ((27 : Nat)) ((2 : Nat)) (p.N0) (fun j => (List.cons (SV.int (IntKind.u64) (p.F0_0 j)) (List.cons (SV.int (IntKind.u64) (p.F0_1 j)) []))) (p.O0)) (List.cons (HO.row ((27 : Nat)) ((2 : Nat)) (p.N1) (fun j => (List.cons (SV.int (IntKind.u64) (p.F1_0 j)) (List.cons (SV.int (IntKind.u64) (p.F1_1 j)) [])))) []))))) (Tr.need (e20_0_2 p s) (Tr.ite (e20_0_3 p s) (Tr.need (e20_0_1 p s) (Tr.leaf (Rs.out (Ex.ret) (List.cons (Option.some (SV.slc ((0:Nat)) ((2 : Nat)) ((0:Nat)) (p.n0))) (none :: (List.cons (Option.some (SV.bool (false))) (List.cons (Option.some (SV.slc ((1 : Nat)) ((2 : Nat)) ((0:Nat)) (p.n3))) (none :: (none :: (none :: (none :: (none :: (none :: (none :: (none :: (none :: (none :: (none :: (none :: (none :: (none :: (none :: (none :: (none :: (none :: (none :: (none :: (none :: (none :: (none :: (none :: [])))))))))))))))))))))))))))) (List.cons (HO.ro ((27 : Nat)) ((2 : Nat)) (p.N0) (fun j => (List.cons (SV.int (IntKind.u64) (p.F0_0 j)) (List.cons (SV.int (IntKind.u64) (p.F0_1 j)) []))) (p.O0)) (List.cons (HO.row ((27 : Nat)) ((2 : Nat)) (p.N1) (fun j => (List.cons (SV.int (IntKind.u64) (p.F1_0 j)) (List.cons (SV.int (IntKind.u64) (p.F1_1 j)) [])))) []))))) (Tr.need (e20_0_4 p s) (Tr.leaf (Rs.on (S20_0.mk ((e20_0_5 p s)))))))))
noncomputable def r20_0 (p : P20_0) (s : S20_0) : Tr (Rs th.R S20_0) := (Tr.ite (e20_0_0 p s) (Tr.leaf (Rs.out (Ex.exit ((0:Nat))) (List.cons (Option.some (SV.slc ((0:Nat)) ((2 : Nat)) ((0:Nat)) (p.n0))) (none :: (List.cons (Option.some (SV.bool (p.b2))) (List.cons (Option.some (SV.slc ((1 : Nat)) ((2 : Nat)) ((0:Nat)) (p.n3))) (none :: (none :: (none :: (none :: (none :: (none :: (none :: (none :: (none :: (none :: (none :: (none :: (none :: (none :: (none :: (none :: (none :: (none :: (none :: (none :: (none :: (none :: (none :: (none :: [])))))))))))))))))))))))))))) (List.cons (HO.ro ((27 : Nat)) ((2 : Nat)) (p.N0) (fun j => (List.cons (SV.int (IntKind.u64) (p.F0_0 j)) (List.cons (SV.int (IntKind.u64) (p.F0_1 j)) []))) (p.O0)) (List.cons (HO.row ((27 : Nat)) ((2 : Nat)) (p.N1) (fun j => (List.cons (SV.int (IntKind.u64) (p.F1_0 j)) (List.cons (SV.int (IntKind.u64) (p.F1_1 j)) [])))) [])))) (Tr.need (e20_0_2 p s) (Tr.ite (e20_0_3 p s) (Tr.leaf (Rs.out (Ex.ret) (List.cons (Option.some (SV.slc ((0:Nat)) ((2 : Nat)) ((0:Nat)) (p.n0))) (none :: (List.cons (Option.some (SV.bool (false))) (List.cons (Option.some (SV.slc ((1 : Nat)) ((2 : Nat)) ((0:Nat)) (p.n3))) (none :: (none :: (none :: (none :: (none :: (none :: (none :: (none :: (none :: (none :: (none :: (none :: (none :: (none :: (none :: (none :: (none :: (none :: (none :: (none :: (none :: (none :: (none :: (none :: [])))))))))))))))))))))))))))) (List.cons (HO.ro ((27 : Nat)) ((2 : Nat)) (p.N0) (fun j => (List.cons (SV.int (IntKind.u64) (p.F0_0 j)) (List.cons (SV.int (IntKind.u64) (p.F0_1 j)) []))) (p.O0)) (List.cons (HO.row ((27 : Nat)) ((2 : Nat)) (p.N1) (fun j => (List.cons (SV.int (IntKind.u64) (p.F1_0 j)) (List.cons (SV.int (IntKind.u64) (p.F1_1 j)) [])))) [])))) (Tr.leaf (Rs.on (S20_0.mk ((e20_0_5 p s))))))))
noncomputable def E20_0 : St th.R → Out th := evCode th Try.prog (auto th Try.prog nice36n [] 20) (autoH [] [] [] [] : Hints th) (lpAt Try.prog 20 0)
theorem B20_0 : CodeSound th Try.prog (lpAt Try.prog 20 0) E20_0 := evCode_sound (T := th) (P := Try.prog) (tbl := (auto th Try.prog nice36n [] 20)) (auto_sound (nice := nice36n) (us := []) nok36n 20) (autoH [] [] [] [] : Hints th) _ (LoopsOk_mem (fun _ => rfl) _ fun b hb L hL => by cases hL)
noncomputable def L20_0 : St th.R → Out th := loopL d20_0 ofV20_0 r20_0
theorem h1_20_0 (p : P20_0) (s : S20_0) : bld d20_0.tm (toV20_0 p s) = some (I20_0 p s) := by kernel_rfl
theorem h2_20_0 (l : List (Vl th.R)) (p : P20_0) (s : S20_0) (h : ofV20_0 l = some (p, s)) : l = toV20_0 p s := by
  unfold ofV20_0 at h
  split at h
  · cases h; rfl
  · cases h
theorem h3_20_0 (p : P20_0) (s : S20_0) : cvE d20_0 (E20_0 (I20_0 p s)) = some ((rf20_0 p s).map (Rs.map (toV20_0 p))) := by kernel_rfl
theorem h3g_20_0 (p : P20_0) (s : S20_0) : (rf20_0 p s).get = (r20_0 p s).get := by kernel_rfl
theorem h4_20_0 (p : P20_0) (s s1 : S20_0) : outH d20_0.dirt d20_0.n0 (r20_0 p s) = repH (maskH d20_0.dirt 0 d20_0.n0 (I20_0 p s1).heap) (r20_0 p s) := by kernel_rfl
theorem ls20_0 : CodeSound th Try.prog (.loop (lpAt Try.prog 20 0)) L20_0 := loopL_sound B20_0 d20_0 I20_0 toV20_0 (by kernel_rfl) h1_20_0 h2_20_0
  (fun p s => ⟨(rf20_0 p s).map (Rs.map (toV20_0 p)), h3_20_0 p s, fun h => by
    rw [Tr.map_ok]
    unfold r20_0 at h; unfold rf20_0
    simp only [Tr.ok, n_e20_0_1, n_e20_0_4, true_and, and_true, forall_const, implies_true] at h ⊢
    try exact h, by rw [Tr.map_get, h3g_20_0 p s]⟩) h4_20_0
theorem ok20 : LoopsOk th Try.prog (autoH [(3, L20_0)] [] [] [] : Hints th) (bodyOf Try.prog 20) := autoH_ok (bs := [lpAt Try.prog 20 0]) (by kernel_rfl) fun b hb L hL => by
  simp only [List.mem_cons, List.not_mem_nil, or_false] at hb
  rcases hb with rfl
  · have e : lookL [(3, L20_0)] (firstReg (lpAt Try.prog 20 0)) = some L20_0 := by kernel_rfl
    rw [e] at hL; cases hL
    exact ls20_0
noncomputable def f20_0 (v : V20) : (Prop) := ∀ (i : Nat), scpL (0:Nat) ((fun (j : Nat) => [SV.int IntKind.u64 (v.F j), SV.int IntKind.u64 (v.G j)]) i) = true
noncomputable def f20_1 (v : V20) : (Prop) := ∀ (i : Nat), i < v.M → (fun (j : Nat) => [SV.int IntKind.u64 (v.F j), SV.int IntKind.u64 (v.G j)]) i = elC (fun (j : Nat) => [SV.int IntKind.u64 (v.F j), SV.int IntKind.u64 (v.G j)]) (0:Nat) [Ck.int IntKind.u64, Ck.int IntKind.u64] i
noncomputable def f20_2 (v : V20) : (Prop) := pre36 (V36.mk v.L v.M v.ob v.F v.G)
noncomputable def f20_3 (v : V20) : (Prop) := (∀ (i : Nat), scpL (0:Nat) ((fun (j : Nat) => [SV.int IntKind.u64 (v.F j), SV.int IntKind.u64 (v.G j)]) i) = true) ∧ ∀ (i : Nat), scpL (0:Nat) ((fun (j : Nat) => [SV.int IntKind.u64 (RSr (sp v.F v.G) v.L j).fst, SV.int IntKind.u64 (RSr (sp v.F v.G) v.L j).snd]) i) = true
noncomputable def f20_4 (v : V20) : (Prop) := (∀ (i : Nat), i < v.M → (fun (j : Nat) => [SV.int IntKind.u64 (v.F j), SV.int IntKind.u64 (v.G j)]) i = elC (fun (j : Nat) => [SV.int IntKind.u64 (v.F j), SV.int IntKind.u64 (v.G j)]) (0:Nat) [Ck.int IntKind.u64, Ck.int IntKind.u64] i) ∧ ∀ (i : Nat), i < v.L → (fun (j : Nat) => [SV.int IntKind.u64 (RSr (sp v.F v.G) v.L j).fst, SV.int IntKind.u64 (RSr (sp v.F v.G) v.L j).snd]) i = elC (fun (j : Nat) => [SV.int IntKind.u64 (RSr (sp v.F v.G) v.L j).fst, SV.int IntKind.u64 (RSr (sp v.F v.G) v.L j).snd]) (0:Nat) [Ck.int IntKind.u64, Ck.int IntKind.u64] i
noncomputable def f20_5 (v : V20) : (Prop) := LT (r20_0 (P20_0.mk v.L false (RS (sp v.F v.G) v.L).length v.M v.ob v.F v.G v.L (fun (j : Nat) => (RSr (sp v.F v.G) v.L j).fst) fun (j : Nat) => (RSr (sp v.F v.G) v.L j).snd)) (S20_0.mk (1 : Int))
noncomputable def f20z0 (v : V20) : S20_0 := lastS (r20_0 (P20_0.mk v.L false (RS (sp v.F v.G) v.L).length v.M v.ob v.F v.G v.L (fun (j : Nat) => (RSr (sp v.F v.G) v.L j).fst) fun (j : Nat) => (RSr (sp v.F v.G) v.L j).snd)) (S20_0.mk (1 : Int))
noncomputable def f20_6 (v : V20) : (Bool) := cnd (cnd (e20_0_0 (P20_0.mk v.L false (RS (sp v.F v.G) v.L).length v.M v.ob v.F v.G v.L (fun (j : Nat) => (RSr (sp v.F v.G) v.L j).fst) fun (j : Nat) => (RSr (sp v.F v.G) v.L j).snd) (f20z0 v)) false true) false ((↑(RS (sp v.F v.G) v.L).length : Int) == (↑v.L : Int))
theorem n_f20_0 (v : V20) : f20_0 v := by
  unfold f20_0
  first
    | (intros; rfl)
    | (intro i; rfl)
    | (intro i _; rfl)
    | (intro _ i; rfl)
    | (intro _ i _; rfl)
    | (refine ⟨?_, ?_⟩ <;> intro i <;> rfl)
    | (refine ⟨?_, ?_, ?_⟩ <;> intro i <;> rfl)
    | (refine ⟨?_, ?_⟩ <;> intro i _ <;> rfl)
    | (repeat' apply And.intro) <;> first | (intro i; rfl) | (intro i _; rfl) | (intro i h; exact absurd h (Nat.not_lt_zero i)) | (intro i; exact scpL_rowSet (by rfl) (by rfl)) | (intro i; exact scpL_rowEl (by kernel_rfl) _)
    | (intros; (repeat' apply And.intro) <;> intros <;> first | rfl | (exact absurd (by assumption) (Nat.not_lt_zero _)))
    | omega
    | decide
theorem n_f20_1 (v : V20) : f20_1 v := by
  unfold f20_1
  first
    | (intros; rfl)
    | (intro i; rfl)
    | (intro i _; rfl)
    | (intro _ i; rfl)
    | (intro _ i _; rfl)
    | (refine ⟨?_, ?_⟩ <;> intro i <;> rfl)
    | (refine ⟨?_, ?_, ?_⟩ <;> intro i <;> rfl)
    | (refine ⟨?_, ?_⟩ <;> intro i _ <;> rfl)
    | (repeat' apply And.intro) <;> first | (intro i; rfl) | (intro i _; rfl) | (intro i h; exact absurd h (Nat.not_lt_zero i)) | (intro i; exact scpL_rowSet (by rfl) (by rfl)) | (intro i; exact scpL_rowEl (by kernel_rfl) _)
    | (intros; (repeat' apply And.intro) <;> intros <;> first | rfl | (exact absurd (by assumption) (Nat.not_lt_zero _)))
    | omega
    | decide
theorem n_f20_3 (v : V20) : f20_3 v := by
  unfold f20_3
  first
    | (intros; rfl)
    | (intro i; rfl)
    | (intro i _; rfl)
    | (intro _ i; rfl)
    | (intro _ i _; rfl)
    | (refine ⟨?_, ?_⟩ <;> intro i <;> rfl)
    | (refine ⟨?_, ?_, ?_⟩ <;> intro i <;> rfl)
    | (refine ⟨?_, ?_⟩ <;> intro i _ <;> rfl)
    | (repeat' apply And.intro) <;> first | (intro i; rfl) | (intro i _; rfl) | (intro i h; exact absurd h (Nat.not_lt_zero i)) | (intro i; exact scpL_rowSet (by rfl) (by rfl)) | (intro i; exact scpL_rowEl (by kernel_rfl) _)
    | (intros; (repeat' apply And.intro) <;> intros <;> first | rfl | (exact absurd (by assumption) (Nat.not_lt_zero _)))
    | omega
    | decide
theorem n_f20_4 (v : V20) : f20_4 v := by
  unfold f20_4
  first
    | (intros; rfl)
    | (intro i; rfl)
    | (intro i _; rfl)
    | (intro _ i; rfl)
    | (intro _ i _; rfl)
    | (refine ⟨?_, ?_⟩ <;> intro i <;> rfl)
    | (refine ⟨?_, ?_, ?_⟩ <;> intro i <;> rfl)
    | (refine ⟨?_, ?_⟩ <;> intro i _ <;> rfl)
    | (repeat' apply And.intro) <;> first | (intro i; rfl) | (intro i _; rfl) | (intro i h; exact absurd h (Nat.not_lt_zero i)) | (intro i; exact scpL_rowSet (by rfl) (by rfl)) | (intro i; exact scpL_rowEl (by kernel_rfl) _)
    | (intros; (repeat' apply And.intro) <;> intros <;> first | rfl | (exact absurd (by assumption) (Nat.not_lt_zero _)))
    | omega
    | decide
noncomputable def ff20 (v : V20) : Tr (Fin th.R) := (Tr.need (f20_0 v) (Tr.need (f20_1 v) (Tr.need (f20_2 v) (Tr.need (f20_3 v) (Tr.need (f20_4 v) (Tr.need (f20_5 v) (Tr.leaf (Prod.mk (SV.bool (f20_6 v)) (Prod.mk (List.cons (HO.ro ((27 : Nat)) ((2 : Nat)) (v.M) (fun j => (List.cons (SV.int (IntKind.u64) (v.F j)) (List.cons (SV.int (IntKind.u64) (v.G j)) []))) (v.ob)) []) [])))))))))
noncomputable def f20 (v : V20) : Tr (Fin th.R) := (Tr.need (f20_2 v) (Tr.need (f20_5 v) (Tr.leaf (Prod.mk (SV.bool (f20_6 v)) (Prod.mk (List.cons (HO.ro ((27 : Nat)) ((2 : Nat)) (v.M) (fun j => (List.cons (SV.int (IntKind.u64) (v.F j)) (List.cons (SV.int (IntKind.u64) (v.G j)) []))) (v.ob)) []) ([]))))))
noncomputable def C20 : CF th.R := fnC d20 ofV20 (f20 )
theorem q20 (v : V20) : (evFn th Try.prog (auto th Try.prog nice36n [] 20) (autoH [(3, L20_0)] [] [] [] : Hints th) 20) (A20 v) (H20 v) = some (ff20 v) := by kernel_rfl
theorem qg20 (v : V20) : ((ff20 v).map (setD [])).get = (f20 v).get := by kernel_rfl
theorem qd20 (v : V20) : allD 1 [] (ff20 v) = true := by kernel_rfl
theorem s20 : Sound Try.prog th 20 (C20 ) := fnC_sound (evFn_sound' (T := th) (P := Try.prog) (tbl := (auto th Try.prog nice36n [] 20)) (auto_sound (nice := nice36n) (us := []) nok36n 20) (H := (autoH [(3, L20_0)] [] [] [] : Hints th)) (k := 20) (fnLoops ok20)) d20 A20 H20 toV20 (by kernel_rfl) (fun v => by kernel_rfl)
  (fun l v h => by
    unfold ofV20 at h
    split at h
    · cases h; rfl
    · cases h)
  [] (fun v => ⟨ff20 v, q20 v, fun h => by
    unfold f20 at h; unfold ff20
    simp only [Tr.ok, n_f20_0, n_f20_1, n_f20_3, n_f20_4, true_and, and_true, forall_const, implies_true] at h ⊢
    try exact h, qg20 v, qd20 v⟩)
theorem qdd20 (v : V20) : (f20 v).get.2.2 = [] := by
  rw [← qg20, Tr.map_get]; rfl
end Go.Sx.S

section
namespace Go.Sx.So
def mts (x y : Sp) : Prop := x.1 < x.2 ∧ y.1 < y.2 ∧ x.1 < y.2 ∧ y.1 < x.2
def inn (x y : Sp) : Prop := x.1 < x.2 ∧ y.1 < y.2 ∧ y.1 ≤ x.1 ∧ x.2 ≤ y.2
instance (x y : Sp) : Decidable (mts x y) := inferInstanceAs (Decidable (_ ∧ _))
instance (x y : Sp) : Decidable (inn x y) := inferInstanceAs (Decidable (_ ∧ _))
def td (x y : Sp) : Prop := mts x y → inn x y ∨ inn y x
instance (x y : Sp) : Decidable (td x y) := inferInstanceAs (Decidable (_ → _))
theorem mts_symm {x y : Sp} (h : mts x y) : mts y x := ⟨h.2.1, h.1, h.2.2.2, h.2.2.1⟩
theorem td_symm {x y : Sp} (h : td x y) : td y x := fun k => (h (mts_symm k)).symm
/-- No two meet. -/
def Ap (l : List Sp) : Prop := (∀ x, x ∈ l → x.1 < x.2) ∧ l.Pairwise fun x y => ¬ mts x y
/-- Each two are tidy. -/
def Td (l : List Sp) : Prop := (∀ x, x ∈ l → x.1 < x.2) ∧ l.Pairwise td
instance (l : List Sp) : Decidable (Ap l) := inferInstanceAs (Decidable (_ ∧ _))
instance (l : List Sp) : Decidable (Td l) := inferInstanceAs (Decidable (_ ∧ _))
theorem Ap.perm {l m : List Sp} (h : l.Perm m) : Ap l ↔ Ap m :=
  and_congr ⟨fun k x hx => k x (h.mem_iff.2 hx), fun k x hx => k x (h.mem_iff.1 hx)⟩ (h.pairwise_iff fun h1 h2 => h1 (mts_symm h2))
theorem Td.perm {l m : List Sp} (h : l.Perm m) : Td l ↔ Td m :=
  and_congr ⟨fun k x hx => k x (h.mem_iff.2 hx), fun k x hx => k x (h.mem_iff.1 hx)⟩ (h.pairwise_iff fun h1 => td_symm h1)
theorem Ap.tidy {l : List Sp} (h : Ap l) : Td l := ⟨h.1, h.2.imp fun h1 h2 => absurd h2 h1⟩
theorem mem_seg {E : Nat → Sp} {n : Nat} {x : Sp} : x ∈ seg E 0 n ↔ ∃ i, i < n ∧ E i = x := by simp [seg]
theorem pw_seg {E : Nat → Sp} {n : Nat} {R : Sp → Sp → Prop} : (seg E 0 n).Pairwise R ↔ ∀ k i, k < i → i < n → R (E k) (E i) := by
  rw [List.pairwise_iff_getElem]
  have e : ∀ i (h : i < (seg E 0 n).length), (seg E 0 n)[i] = E i := fun i h => by simp [seg]
  constructor
  · intro h k i h1 h2
    have := h k i (by rw [seg_length]; omega) (by rw [seg_length]; omega) h1
    rwa [e, e] at this
  · intro h k i h1 h2 h3
    rw [e, e]
    exact h k i h3 (by rw [seg_length] at h2; omega)
theorem Ap_seg {E : Nat → Sp} {n : Nat} : Ap (seg E 0 n) ↔ (∀ i, i < n → (E i).1 < (E i).2) ∧ ∀ k i, k < i → i < n → ¬ mts (E k) (E i) :=
  and_congr ⟨fun h i hi => h _ (mem_seg.2 ⟨i, hi, rfl⟩), fun h x hx => by obtain ⟨i, hi, rfl⟩ := mem_seg.1 hx; exact h i hi⟩ pw_seg
theorem Td_seg {E : Nat → Sp} {n : Nat} : Td (seg E 0 n) ↔ (∀ i, i < n → (E i).1 < (E i).2) ∧ ∀ k i, k < i → i < n → td (E k) (E i) :=
  and_congr ⟨fun h i hi => h _ (mem_seg.2 ⟨i, hi, rfl⟩), fun h x hx => by obtain ⟨i, hi, rfl⟩ := mem_seg.1 hx; exact h i hi⟩ pw_seg
theorem flt_len {F : Nat → Sp} {n : Nat} : (flt F n).length = n ↔ ∀ i, i < n → (F i).1 < (F i).2 := by
  have := List.length_filter_eq_length_iff (p := rgt) (l := seg F 0 n)
  rw [seg_length] at this
  rw [show (flt F n).length = ((seg F 0 n).filter rgt).length from rfl, this]
  exact ⟨fun h i hi => rgt_iff.1 (h _ (mem_seg.2 ⟨i, hi, rfl⟩)), fun h x hx => by obtain ⟨i, hi, rfl⟩ := mem_seg.1 hx; exact rgt_iff.2 (h i hi)⟩
theorem seg_srt (E : Nat → Sp) (L : Nat) : (seg (srt E 0 L) 0 L).Perm (seg E 0 L) := (srt_perm E 0 L).perm
theorem right_srt {E : Nat → Sp} {L : Nat} : (∀ i, i < L → (srt E 0 L i).1 < (srt E 0 L i).2) ↔ ∀ i, i < L → (E i).1 < (E i).2 :=
  ⟨fun h i hi => by
    obtain ⟨j, hj, e⟩ := mem_seg.1 ((seg_srt E L).mem_iff.2 (mem_seg.2 ⟨i, hi, rfl⟩))
    rw [← e]; exact h j hj, fun h i hi => by
    obtain ⟨j, hj, e⟩ := mem_seg.1 ((seg_srt E L).mem_iff.1 (mem_seg.2 ⟨i, hi, rfl⟩))
    rw [← e]; exact h j hj⟩
theorem rs_all {E : Nat → Sp} {L : Nat} (h : (flt (srt E 0 L) L).length = L) : lay (flt (srt E 0 L) L) L (srt E 0 L) = srt E 0 L := by
  rw [flt_all fun j hj => rgt_iff.2 (flt_len.1 h j hj), lay_seg]
theorem adj {S : Nat → Sp} {n : Nat} (hs : SortedIn 0 n S) (hr : ∀ i, i < n → (S i).1 < (S i).2) (ha : ∀ i, 1 ≤ i → i < n → ¬ mts (S (i - 1)) (S i)) : ∀ i k, k < i → i < n → (S k).2 ≤ (S i).1 := by
  intro i
  induction i with
  | zero => intro k h; omega
  | succ i ih =>
    intro k hk hi
    have h1 := ha (i + 1) (by omega) hi
    have h2 := hr i (by omega)
    have h3 := hr (i + 1) hi
    have h4 := hs i (i + 1) (by omega) (by omega) hi
    rw [le_iff] at h4
    have h5 : (S i).2 ≤ (S (i + 1)).1 := by
      rw [Nat.add_sub_cancel] at h1
      have : ¬ (S (i + 1)).1 < (S i).2 := fun q => h1 ⟨h2, h3, by omega, q⟩
      omega
    by_cases hki : k = i
    · subst hki; exact h5
    · have := ih k (by omega) (by omega)
      omega
theorem apart_law {E : Nat → Sp} {L : Nat} {R : Nat → Sp} (hR : R = lay (flt (srt E 0 L) L) L (srt E 0 L)) :
    ((∀ i, 1 ≤ i → i < (flt (srt E 0 L) L).length → ¬ mts (R (i - 1)) (R i)) ∧ (flt (srt E 0 L) L).length = L) ↔ Ap (seg E 0 L) := by
  rw [← Ap.perm (seg_srt E L), Ap_seg]
  constructor
  · rintro ⟨h1, h2⟩
    rw [rs_all h2] at hR
    subst hR
    rw [h2] at h1
    refine ⟨flt_len.1 h2, fun k i hk hi hm => ?_⟩
    have := adj (srt_sorted E 0 L) (flt_len.1 h2) h1 i k hk hi
    have := hm.2.2.2
    omega
  · rintro ⟨h1, h2⟩
    have h3 := flt_len.2 h1
    rw [rs_all h3] at hR
    subst hR
    exact ⟨fun i hi hn => h2 (i - 1) i (by omega) (by omega), h3⟩
theorem lay_get {l : List Sp} {L j : Nat} {E : Nat → Sp} (h : l.length ≤ L) (hj : j < l.length) : lay l L E j = l[j] := by
  unfold lay
  rw [if_pos (by omega)]
  simp [hj]
theorem lay_eq {l : List Sp} {L : Nat} {E : Nat → Sp} (h : l.length ≤ L) : seg (lay l L E) 0 l.length = l := by
  apply List.ext_getElem
  · rw [seg_length]
  · intro j h1 h2
    simp only [seg, List.getElem_map, List.getElem_range, Nat.zero_add]
    exact lay_get h h2
theorem rs_sorted {E R : Nat → Sp} {L n : Nat} (hR : R = lay (flt (srt E 0 L) L) L (srt E 0 L)) (hn : n = (flt (srt E 0 L) L).length) : SortedIn 0 n R := by
  subst hR hn
  apply of_pairwise
  rw [Nat.sub_zero, lay_eq (flt_length _ _)]
  have := seg_pairwise (srt_sorted E 0 L)
  rw [Nat.sub_zero] at this
  exact this.filter _
theorem rs_seg {E R : Nat → Sp} {L n : Nat} (hR : R = lay (flt (srt E 0 L) L) L (srt E 0 L)) (hn : n = (flt (srt E 0 L) L).length) : seg R 0 n = flt (srt E 0 L) L := by
  subst hR hn
  exact lay_eq (flt_length _ _)
theorem rs_right {E R : Nat → Sp} {L n : Nat} (hR : R = lay (flt (srt E 0 L) L) L (srt E 0 L)) (hn : n = (flt (srt E 0 L) L).length) (i : Nat) (hi : i < n) : (R i).1 < (R i).2 := by
  have : R i ∈ flt (srt E 0 L) L := by rw [← rs_seg hR hn]; exact mem_seg.2 ⟨i, hi, rfl⟩
  exact rgt_iff.1 (List.mem_filter.1 this).2
theorem tidy_law {E : Nat → Sp} {L : Nat} {R : Nat → Sp} (hR : R = lay (flt (srt E 0 L) L) L (srt E 0 L)) :
    (Td (seg R 0 (flt (srt E 0 L) L).length) ∧ (flt (srt E 0 L) L).length = L) ↔ Td (seg E 0 L) := by
  rw [← Td.perm (seg_srt E L)]
  constructor
  · rintro ⟨h1, h2⟩
    rw [rs_all h2] at hR
    rw [h2, hR] at h1
    exact h1
  · intro h
    have h3 := flt_len.2 (Td_seg.1 h).1
    rw [rs_all h3] at hR
    rw [h3, hR]
    exact ⟨h, rfl⟩
/-- The stack of the open ones. -/
structure TI (n : Nat) (R : Nat → Sp) (i m : Nat) (St : Nat → Sp) : Prop where
  chain : ∀ k' k, k' < k → k < m → inn (St k) (St k')
  all : ∀ j, j < i → (∃ k, k < m ∧ St k = R j) ∨ ∀ x, i ≤ x → x < n → (R j).2 ≤ (R x).1
  own : ∀ k, k < m → ∃ j, j < i ∧ St k = R j
  done : ∀ k j, k < j → j < i → td (R k) (R j)
theorem TI.zero {n : Nat} {R St : Nat → Sp} : TI n R 0 0 St := ⟨fun _ _ _ h => by omega, fun _ h => by omega, fun _ h => by omega, fun _ _ _ h => by omega⟩
theorem inn_trans {x y z : Sp} (h : inn x y) (k : inn y z) : inn x z := ⟨h.1, k.2.1, Int.le_trans k.2.2.1 h.2.2.1, Int.le_trans h.2.2.2 k.2.2.2⟩
theorem TI.push {n : Nat} {R : Nat → Sp} {i m : Nat} {St : Nat → Sp} (h : TI n R i m St) (hs : SortedIn 0 n R) (hi : i < n) {m' : Nat} (hm : m' ≤ m)
    (hp : ∀ k, m' ≤ k → k < m → (St k).2 ≤ (R i).1) (ht : m' = 0 ∨ inn (R i) (St (m' - 1))) {St' : Nat → Sp} (e1 : ∀ k, k < m' → St' k = St k) (e2 : St' m' = R i) : TI n R (i + 1) (m' + 1) St' := by
  have inS : ∀ k, k < m' → inn (R i) (St k) := fun k hk => by
    rcases ht with h0 | h0
    · omega
    · by_cases hk' : k = m' - 1
      · subst hk'; exact h0
      · exact inn_trans h0 (h.chain k (m' - 1) (by omega) (by omega))
  have far : ∀ j, j < i → (∃ k, k < m' ∧ St k = R j) ∨ (R j).2 ≤ (R i).1 := fun j hj => by
    rcases h.all j hj with ⟨k, hk, e⟩ | h0
    · by_cases hk' : k < m'
      · exact .inl ⟨k, hk', e⟩
      · exact .inr (by rw [← e]; exact hp k (by omega) hk)
    · exact .inr (h0 i (Nat.le_refl _) hi)
  refine ⟨fun k' k h1 h2 => ?_, fun j hj => ?_, fun k hk => ?_, fun k j h1 h2 => ?_⟩
  · by_cases hk : k = m'
    · subst hk; rw [e2, e1 k' h1]; exact inS k' h1
    · rw [e1 k (by omega), e1 k' (by omega)]; exact h.chain k' k h1 (by omega)
  · by_cases hj' : j = i
    · subst hj'; exact .inl ⟨m', by omega, e2⟩
    · rcases far j (by omega) with ⟨k, hk, e⟩ | h0
      · exact .inl ⟨k, by omega, by rw [e1 k hk]; exact e⟩
      · refine .inr fun x h1 h2 => ?_
        have := hs i x (Nat.zero_le _) (by omega) h2
        rw [le_iff] at this
        omega
  · by_cases hk' : k = m'
    · subst hk'; exact ⟨i, by omega, e2⟩
    · obtain ⟨j, hj, e⟩ := h.own k (by omega)
      exact ⟨j, by omega, by rw [e1 k (by omega)]; exact e⟩
  · by_cases hj : j = i
    · subst hj
      rcases far k h1 with ⟨k', hk', e⟩ | h0
      · exact fun _ => .inr (by rw [← e]; exact inS k' hk')
      · intro hm
        have := hm.2.2.2
        omega
    · exact h.done k j h1 (by omega)
theorem TI.fail {n : Nat} {R : Nat → Sp} {i m : Nat} {St : Nat → Sp} (h : TI n R i m St) (hs : SortedIn 0 n R) (hr : ∀ i, i < n → (R i).1 < (R i).2) (hi : i < n) {m' : Nat} (hm : m' ≤ m) (h0 : 0 < m')
    (ht : (R i).1 < (St (m' - 1)).2) (hn : ¬ inn (R i) (St (m' - 1))) : ¬ Td (seg R 0 n) := by
  obtain ⟨j, hj, e⟩ := h.own (m' - 1) (by omega)
  rw [e] at ht hn
  intro hT
  have h1 := (Td_seg.1 hT).2 j i hj hi
  have h2 := hs j i (Nat.zero_le _) (by omega) hi
  rw [le_iff] at h2
  have h3 := hr i hi
  have h4 := hr j (by omega)
  rcases h1 ⟨h4, h3, by omega, ht⟩ with q | q
  · exact hn ⟨h3, h4, by obtain ⟨_, _, q1, q2⟩ := q; omega, by obtain ⟨_, _, q1, q2⟩ := q; omega⟩
  · exact hn q
theorem TI.final {n : Nat} {R : Nat → Sp} {m : Nat} {St : Nat → Sp} (h : TI n R n m St) (hr : ∀ i, i < n → (R i).1 < (R i).2) : Td (seg R 0 n) := Td_seg.2 ⟨hr, h.done⟩
end Go.Sx.So

end

namespace Go.Sx.S
open Go Go.Sx Go.Proofs Go.RowKit
set_option maxRecDepth 100000
open So
def pre20 (v : V20) : Prop := v.L ≤ v.M ∧ v.L ≤ 30000000000
theorem meets_dec (x y : Sp) : f13_0 x.1 x.2 y.1 y.2 = decide (mts x y) := by
  rw [Bool.eq_iff_iff, decide_eq_true_iff]
  simp only [f13_0, f11_0, cnd_and, Bool.and_eq_true, decide_eq_true_eq]
  exact ⟨fun ⟨⟨⟨a, b⟩, c⟩, d⟩ => ⟨a, b, c, d⟩, fun ⟨a, b, c, d⟩ => ⟨⟨⟨a, b⟩, c⟩, d⟩⟩
theorem l20 {L M n : Nat} {F G : Nat → Int} {ob : Obj} {R : Nat → Sp} (hn : n ≤ L) (hL : L ≤ 30000000000) :
    LT (r20_0 (P20_0.mk L false n M ob F G L (fun j => (R j).fst) fun j => (R j).snd)) (S20_0.mk 1) ∧
      (fun s : S20_0 => ((n : Int) ≤ s.x4 ∧ ∀ i, 1 ≤ i → i < n → ¬ mts (R (i - 1)) (R i)) ∨ (s.x4 < (n : Int) ∧ ∃ i, 1 ≤ i ∧ i < n ∧ mts (R (i - 1)) (R i)))
        (lastS (r20_0 (P20_0.mk L false n M ob F G L (fun j => (R j).fst) fun j => (R j).snd)) (S20_0.mk 1)) := by
  refine LT.post (fun s : S20_0 => ∃ i : Nat, s.x4 = i ∧ 1 ≤ i ∧ i ≤ n + 1 ∧ ∀ j, 1 ≤ j → j < i → j < n → ¬ mts (R (j - 1)) (R j))
    (fun s : S20_0 => ((n : Int) ≤ s.x4 ∧ ∀ i, 1 ≤ i → i < n → ¬ mts (R (i - 1)) (R i)) ∨ (s.x4 < (n : Int) ∧ ∃ i, 1 ≤ i ∧ i < n ∧ mts (R (i - 1)) (R i))) (fun s : S20_0 => (n - s.x4).toNat) ?_ ?_
  rotate_left
  · exact ⟨1, rfl, Nat.le_refl _, by omega, fun j h1 h2 => by omega⟩
  rintro ⟨x⟩ ⟨i, g1, g2, g3, g4⟩
  simp only at g1
  subst g1
  have w1 : IntKind.i64.wrap ((i : Int) - 1) = ((i - 1 : Nat) : Int) := by rw [wi (by omega) (by omega)]; omega
  have w2 : IntKind.i64.wrap ((i : Int) + 1) = ((i + 1 : Nat) : Int) := by rw [wi (by omega) (by omega)]; omega
  simp only [r20_0, e20_0_0, e20_0_2, e20_0_3, e20_0_5, Tr.ok, Tr.get, w1, w2, Nat.zero_add, Int.toNat_natCast, meets_dec, cndB, decide_eq_true_eq]
  by_cases hc : i < n
  · have hd : (if (i : Int) < (n : Int) then false else true) = false := if_pos (by omega)
    rw [hd]
    refine ⟨⟨(fun e => by cases e), fun _ => ⟨⟨fun _ => ⟨by omega, by omega⟩, fun _ => by omega, fun _ => ⟨by omega, by omega⟩, fun _ => by omega⟩, fun _ => trivial, fun _ => trivial⟩⟩, ?_⟩
    by_cases hm : mts (R (i - 1)) (R i)
    · rw [decide_eq_true hm]
      exact .inl ⟨⟨_, _, _, rfl⟩, .inr ⟨by omega, i, g2, hc, hm⟩⟩
    · rw [decide_eq_false hm]
      refine .inr ⟨_, rfl, ⟨i + 1, rfl, by omega, by omega, fun j h1 h2 h3 => ?_⟩, by simp only; omega⟩
      by_cases hj : j = i
      · subst hj; exact hm
      · exact g4 j h1 (by omega) h3
  · have hd : (if (i : Int) < (n : Int) then false else true) = true := if_neg (by omega)
    rw [hd]
    exact ⟨⟨fun _ => trivial, (fun e => by cases e)⟩, .inl ⟨⟨_, _, _, rfl⟩,   .inl ⟨by omega, fun j h1 h2 => g4 j h1 (by omega) h2⟩⟩⟩
theorem n20 (v : V20) (h : pre20 v) : (f20 v).ok ∧ (f20 v).get.1 = .bool (decide (Ap (seg (sp v.F v.G) 0 v.L))) ∧ HOws (f20 v).get.2.1 [HO.ro 27 2 v.M (fun j => [SV.int .u64 (v.F j), SV.int .u64 (v.G j)]) v.ob] := by
  obtain ⟨L, M, ob, F, G⟩ := v
  obtain ⟨h1, h2⟩ : L ≤ M ∧ L ≤ 30000000000 := h
  have hn : (RS (sp F G) L).length ≤ L := flt_length _ _
  obtain ⟨k1, k2⟩ := l20 (M := M) (F := F) (G := G) (ob := ob) (R := RSr (sp F G) L) hn h2
  have k3 := apart_law (E := sp F G) (L := L) (R := RSr (sp F G) L) rfl
  refine ⟨⟨⟨h1, h2⟩, k1, trivial⟩, ?_, .refl _⟩
  show SV.bool (f20_6 _) = _
  congr 1
  rw [Bool.eq_iff_iff, decide_eq_true_iff, ← k3]
  have key : ∀ s : S20_0, ((((RS (sp F G) L).length : Int) ≤ s.x4 ∧ ∀ i, 1 ≤ i → i < (RS (sp F G) L).length → ¬ mts (RSr (sp F G) L (i - 1)) (RSr (sp F G) L i)) ∨ (s.x4 < ((RS (sp F G) L).length : Int) ∧ ∃ i, 1 ≤ i ∧ i < (RS (sp F G) L).length ∧ mts (RSr (sp F G) L (i - 1)) (RSr (sp F G) L i))) →
      ((cnd (cnd (cnd (decide (s.x4 < ((RS (sp F G) L).length : Int))) false true) false true) false (((RS (sp F G) L).length : Int) == (L : Int)) = true) ↔
        ((∀ i, 1 ≤ i → i < (RS (sp F G) L).length → ¬ mts (RSr (sp F G) L (i - 1)) (RSr (sp F G) L i)) ∧ (RS (sp F G) L).length = L)) := by
    intro s k2
    rcases k2 with ⟨a, b⟩ | ⟨a, b⟩
    · rw [decide_eq_false (by omega)]
      show (((RS (sp F G) L).length : Int) == (L : Int)) = true ↔ _
      rw [beq_iff_eq]
      exact ⟨fun e => ⟨b, by omega⟩, fun e => by omega⟩
    · rw [decide_eq_true (by omega)]
      show false = true ↔ _
      obtain ⟨i, i1, i2, i3⟩ := b
      exact ⟨(fun e => by cases e), fun e => absurd i3 (e.1 i i1 i2)⟩
  exact key _ k2
noncomputable def f20n (v : V20) : Tr (Fin th.R) := .need (pre20 v) (.leaf (.bool (decide (So.Ap (So.seg (sp v.F v.G) 0 v.L))), [.ro 27 2 v.M (fun j => [.int .u64 (v.F j), .int .u64 (v.G j)]) v.ob], []))
theorem s20n : Sound Try.prog th 20 (fnC d20 ofV20 f20n) := fnC_refine s20 fun v h => by
  obtain ⟨hp, _⟩ := h
  obtain ⟨a, b, c⟩ := n20 v hp
  exact ⟨a, b.symm, (qdd20 v).symm, c, by show 1 ≤ 1; decide⟩
structure V20w where
  L : Nat
  M : Nat
  F : Nat → Int
  G : Nat → Int
def inj20 (v : V20w) (o : Obj) : V20 := ⟨v.L, v.M, o, v.F, v.G⟩
def A20w (v : V20w) : List SV := [.slc 0 2 0 v.L]
def H20w (v : V20w) : List (HO th.R) := [.row 27 2 v.M (fun j => [.int .u64 (v.F j), .int .u64 (v.G j)])]
def toV20w (v : V20w) : List (Vl th.R) := [.n v.L, .n v.M, .c v.F, .c v.G]
def ofV20w : List (Vl th.R) → Option V20w
  | [.n L, .n M, .c F, .c G] => some ⟨L, M, F, G⟩
  | _ => none
def d20w : Ft := ⟨[.slc0 0 2], [.rowc 27 [.int .u64, .int .u64]]⟩
noncomputable def f20w (v : V20w) : Tr (Fin th.R) := .need (pre20 (inj20 v (.cells #[] 0))) (.leaf (.bool (decide (So.Ap (So.seg (sp (inj20 v (.cells #[] 0)).F (inj20 v (.cells #[] 0)).G) 0 (inj20 v (.cells #[] 0)).L))), [.row 27 2 v.M (fun j => [.int .u64 (v.F j), .int .u64 (v.G j)])], []))
theorem cw20 (v : V20w) (o : Obj) : fnC d20 ofV20 f20n (A20 (inj20 v o)) (H20 (inj20 v o)) = some (.need (∀ i, i < v.M → (fun j => [.int .u64 (v.F j), .int .u64 (v.G j)] : Nat → List SV) i = elC (fun j => [.int .u64 (v.F j), .int .u64 (v.G j)] : Nat → List SV) 0 [.int .u64, .int .u64] i) ((f20n (inj20 v o)).map (fixF (H20 (inj20 v o))))) := by kernel_rfl
theorem s20w : Sound Try.prog th 20 (fnC d20w ofV20w f20w) := by
  refine fnC_direct (T := th) d20w A20w H20w toV20w (by kernel_rfl) (fun v => by kernel_rfl) ?_ ?_ (fun v _ => Nat.le_add_left _ _) (fun v _ n hn _ => ?_)
  · intro l v h
    unfold ofV20w at h
    split at h
    · cases h; rfl
    · cases h
  · intro v hok K w0 ρ w vargs I hr
    obtain ⟨hp, _⟩ := hok
    exact ro_row (tl := []) (val := .bool (decide (So.Ap (So.seg (sp (inj20 v (.cells #[] 0)).F (inj20 v (.cells #[] 0)).G) 0 (inj20 v (.cells #[] 0)).L)))) (fun o K w0 ρ w vargs I hr => fnC_out s20n (cw20 v o) ⟨fun i _ => rfl, hp, trivial⟩ I hr) I hr
  · have hn : n < 1 := hn
    have : n = 0 := by omega
    subst this; rfl
noncomputable def nice20n : List (Nat × CF th.R) := (20, lift (orC (fnC d20 ofV20 f20n) (fnC d20w ofV20w f20w))) :: nice36n
theorem nok20n : NiceOk Try.prog th nice20n := ⟨lift_sound (orC_sound s20n s20w), nok36n⟩
end Go.Sx.S

namespace Go.Sx.S
open Go Go.Sx Go.Proofs Go.RowKit
set_option maxRecDepth 100000
structure V27 where
  L : Nat
  wf : Int
  wt : Int
  M : Nat
  ob : Obj
  F : Nat → Int
  G : Nat → Int
def A27 (v : V27) : List SV := [.slc 0 2 0 v.L, .agg [.int .u64 v.wf, .int .u64 v.wt]]
def H27 (v : V27) : List (HO th.R) := [.ro 27 2 v.M (fun j => [.int .u64 (v.F j), .int .u64 (v.G j)]) v.ob]
def toV27 (v : V27) : List (Vl th.R) := [.n v.L, .i v.wf, .i v.wt, .n v.M, .o v.ob, .c v.F, .c v.G]
def ofV27 : List (Vl th.R) → Option V27
  | [.n L, .i wf, .i wt, .n M, .o ob, .c F, .c G] => some ⟨L, wf, wt, M, ob, F, G⟩
  | _ => none
def d27 : Ft := ⟨[.slc0 0 2, .agg [.int .u64, .int .u64]], [.roc 27 [.int .u64, .int .u64]]⟩
structure P27_0 where
  n17 : Nat
  x18 : Int
  N0 : Nat
  O0 : Obj
  F0_0 : Nat → Int
  F0_1 : Nat → Int
  xh1_0 : Int
  xh1_1 : Int
  N2 : Nat
  F2_0 : Nat → Int
  F2_1 : Nat → Int
structure S27_0 where
  n5 : Nat
  x6 : Int
  x19 : Int
  N3 : Nat
  F3_0 : Nat → Int
  F3_1 : Nat → Int
instance : Inhabited S27_0 := ⟨⟨0, 0, 0, 0, fun _ => 0, fun _ => 0⟩⟩
def I27_0 (p : P27_0) (s : S27_0) : St th.R := ⟨[none, none, none, some (.ptr 1 0), none, some (.slc 3 2 0 s.n5), some (.int .u64 s.x6), none, none, none, none, none, none, none, none, none, none, some (.slc 2 2 0 p.n17), some (.int .i64 p.x18), some (.int .i64 s.x19), none, none, none, none, none, none, none, none, none, none, none, none, none, none, none, none, none, none, none, none, none, none, none, none, none, none, none, none, none, none, none, none], [.ro 27 2 p.N0 (fun j => [.int .u64 (p.F0_0 j), .int .u64 (p.F0_1 j)]) p.O0, .cells 27 [.int .u64 p.xh1_0, .int .u64 p.xh1_1], .row 27 2 p.N2 (fun j => [.int .u64 (p.F2_0 j), .int .u64 (p.F2_1 j)]), .row 27 2 s.N3 (fun j => [.int .u64 (s.F3_0 j), .int .u64 (s.F3_1 j)])], [], []⟩
def d27_0 : Lp := ⟨⟨52, [(3, .ptr 1 0), (5, .slc0 3 2), (6, .int .u64), (17, .slc0 2 2), (18, .int .i64), (19, .int .i64)], [.roc 27 [.int .u64, .int .u64], .cells 27 [.int .u64, .int .u64], .rowc 27 [.int .u64, .int .u64], .rowc 27 [.int .u64, .int .u64]]⟩, [⟨5, 27, 2⟩], 3, [], [3, 5, 6], []⟩
def toV27_0 (p : P27_0) (s : S27_0) : List (Vl th.R) := [.n s.n5, .i s.x6, .n p.n17, .i p.x18, .i s.x19, .n p.N0, .o p.O0, .c p.F0_0, .c p.F0_1, .i p.xh1_0, .i p.xh1_1, .n p.N2, .c p.F2_0, .c p.F2_1, .n s.N3, .c s.F3_0, .c s.F3_1]
def ofV27_0 : List (Vl th.R) → Option (P27_0 × S27_0)
  | [.n n5, .i x6, .n n17, .i x18, .i x19, .n N0, .o O0, .c F0_0, .c F0_1, .i xh1_0, .i xh1_1, .n N2, .c F2_0, .c F2_1, .n N3, .c F3_0, .c F3_1] => some (⟨n17, x18, N0, O0, F0_0, F0_1, xh1_0, xh1_1, N2, F2_0, F2_1⟩, ⟨n5, x6, x19, N3, F3_0, F3_1⟩)
  | _ => none
noncomputable def e27_0_0 (p : P27_0) (s : S27_0) : (Bool) := cnd (decide (s.x19 < p.x18)) false true
noncomputable def e27_0_1 (p : P27_0) (s : S27_0) : (Prop) := (∀ (i : Nat), scpL (0:Nat) ((fun (j : Nat) => [SV.int IntKind.u64 (p.F0_0 j), SV.int IntKind.u64 (p.F0_1 j)]) i) = true) ∧ (∀ (i : Nat), scpL (0:Nat) ((fun (j : Nat) => [SV.int IntKind.u64 (p.F2_0 j), SV.int IntKind.u64 (p.F2_1 j)]) i) = true) ∧ ∀ (i : Nat), scpL (0:Nat) ((fun (j : Nat) => [SV.int IntKind.u64 (s.F3_0 j), SV.int IntKind.u64 (s.F3_1 j)]) i) = true
noncomputable def e27_0_2 (p : P27_0) (s : S27_0) : (Prop) := (0 : Int) ≤ s.x19 ∧ s.x19 < (↑p.n17 : Int)
noncomputable def e27_0_3 (p : P27_0) (s : S27_0) : (Prop) := (0:Nat) + s.x19.toNat < p.N2
noncomputable def e27_0_4 (p : P27_0) (s : S27_0) : (Prop) := f11_0 s.x6 (if p.xh1_1 < p.F2_0 ((0:Nat) + s.x19.toNat) then p.xh1_1 else p.F2_0 ((0:Nat) + s.x19.toNat)) = true → (0:Nat) = (0:Nat) ∧ s.n5 ≤ s.N3 ∧ (1 : Nat) ≤ (1 : Nat) ∧ (s.n5 + (1 : Nat)) * (4096 : Nat) ≤ (140737488355328 : Nat) ∧ s.n5 + (1 : Nat) ≤ (9223372036854775807 : Nat)
noncomputable def e27_0_5 (p : P27_0) (s : S27_0) : (Bool) := f11_0 s.x6 (if p.xh1_1 < p.F2_0 ((0:Nat) + s.x19.toNat) then p.xh1_1 else p.F2_0 ((0:Nat) + s.x19.toNat))
noncomputable def e27_0_6 (p : P27_0) (s : S27_0) : (Prop) := ((∀ (i : Nat), scpL (0:Nat) ((fun (j : Nat) => [SV.int IntKind.u64 (p.F0_0 j), SV.int IntKind.u64 (p.F0_1 j)]) i) = true) ∧ (∀ (i : Nat), scpL (0:Nat) ((fun (j : Nat) => [SV.int IntKind.u64 (p.F2_0 j), SV.int IntKind.u64 (p.F2_1 j)]) i) = true) ∧ ∀ (i : Nat), scpL (0:Nat) ((fun (i : Nat) => rowSet (i.blt s.n5) ((fun (j : Nat) => [SV.int IntKind.u64 (s.F3_0 j), SV.int IntKind.u64 (s.F3_1 j)]) i) (rowEl (1 : Nat) (2 : Nat) (setMany (List.map (fun (i : Nat) => [SV.int IntKind.u64 (0 : Int), SV.int IntKind.u64 (0 : Int)].getD (i % (2 : Nat)) Inhabited.default) (List.range (2 : Nat))) (0:Nat) (SV.agg (List.take (2 : Nat) (List.drop (0:Nat) (splice [SV.int IntKind.u64 (0 : Int), SV.int IntKind.u64 (0 : Int)] (0:Nat) (SV.agg (setMany (setMany [SV.int IntKind.u64 (0 : Int), SV.int IntKind.u64 (0 : Int)] (0:Nat) (SV.int IntKind.u64 s.x6).cells) (1 : Nat) (SV.int IntKind.u64 (if p.xh1_1 < p.F2_0 ((0:Nat) + s.x19.toNat) then p.xh1_1 else p.F2_0 ((0:Nat) + s.x19.toNat))).cells)).cells)))).cells) ((0:Nat) + (i - s.n5)))) i) = true) ∧ (∀ (i : Nat), i < p.N0 → (fun (j : Nat) => [SV.int IntKind.u64 (p.F0_0 j), SV.int IntKind.u64 (p.F0_1 j)]) i = elC (fun (j : Nat) => [SV.int IntKind.u64 (p.F0_0 j), SV.int IntKind.u64 (p.F0_1 j)]) (0:Nat) [Ck.int IntKind.u64, Ck.int IntKind.u64] i) ∧ (∀ (i : Nat), i < p.N2 → (fun (j : Nat) => [SV.int IntKind.u64 (p.F2_0 j), SV.int IntKind.u64 (p.F2_1 j)]) i = elC (fun (j : Nat) => [SV.int IntKind.u64 (p.F2_0 j), SV.int IntKind.u64 (p.F2_1 j)]) (0:Nat) [Ck.int IntKind.u64, Ck.int IntKind.u64] i) ∧ ∀ (i : Nat), i < s.n5 + (1 : Nat) → (fun (i : Nat) => rowSet (i.blt s.n5) ((fun (j : Nat) => [SV.int IntKind.u64 (s.F3_0 j), SV.int IntKind.u64 (s.F3_1 j)]) i) (rowEl (1 : Nat) (2 : Nat) (setMany (List.map (fun (i : Nat) => [SV.int IntKind.u64 (0 : Int), SV.int IntKind.u64 (0 : Int)].getD (i % (2 : Nat)) Inhabited.default) (List.range (2 : Nat))) (0:Nat) (SV.agg (List.take (2 : Nat) (List.drop (0:Nat) (splice [SV.int IntKind.u64 (0 : Int), SV.int IntKind.u64 (0 : Int)] (0:Nat) (SV.agg (setMany (setMany [SV.int IntKind.u64 (0 : Int), SV.int IntKind.u64 (0 : Int)] (0:Nat) (SV.int IntKind.u64 s.x6).cells) (1 : Nat) (SV.int IntKind.u64 (if p.xh1_1 < p.F2_0 ((0:Nat) + s.x19.toNat) then p.xh1_1 else p.F2_0 ((0:Nat) + s.x19.toNat))).cells)).cells)))).cells) ((0:Nat) + (i - s.n5)))) i = elC (fun (i : Nat) => rowSet (i.blt s.n5) ((fun (j : Nat) => [SV.int IntKind.u64 (s.F3_0 j), SV.int IntKind.u64 (s.F3_1 j)]) i) (rowEl (1 : Nat) (2 : Nat) (setMany (List.map (fun (i : Nat) => [SV.int IntKind.u64 (0 : Int), SV.int IntKind.u64 (0 : Int)].getD (i % (2 : Nat)) Inhabited.default) (List.range (2 : Nat))) (0:Nat) (SV.agg (List.take (2 : Nat) (List.drop (0:Nat) (splice [SV.int IntKind.u64 (0 : Int), SV.int IntKind.u64 (0 : Int)] (0:Nat) (SV.agg (setMany (setMany [SV.int IntKind.u64 (0 : Int), SV.int IntKind.u64 (0 : Int)] (0:Nat) (SV.int IntKind.u64 s.x6).cells) (1 : Nat) (SV.int IntKind.u64 (if p.xh1_1 < p.F2_0 ((0:Nat) + s.x19.toNat) then p.xh1_1 else p.F2_0 ((0:Nat) + s.x19.toNat))).cells)).cells)))).cells) ((0:Nat) + (i - s.n5)))) (0:Nat) [Ck.int IntKind.u64, Ck.int IntKind.u64] i
noncomputable def e27_0_7 (p : P27_0) (s : S27_0) : (Nat) := s.n5 + (1 : Nat)
noncomputable def e27_0_8 (p : P27_0) (s : S27_0) : (Int) := if p.F2_1 ((0:Nat) + s.x19.toNat) > s.x6 then p.F2_1 ((0:Nat) + s.x19.toNat) else s.x6
noncomputable def e27_0_9 (p : P27_0) (s : S27_0) : (Int) := IntKind.i64.wrap (s.x19 + (1 : Int))
noncomputable def e27_0_10 (p : P27_0) (s : S27_0) : Nat → (Int) := fun j => cnd (j.blt s.n5) (s.F3_0 j) s.x6
noncomputable def e27_0_11 (p : P27_0) (s : S27_0) : Nat → (Int) := fun j => cnd (j.blt s.n5) (s.F3_1 j) (if p.xh1_1 < p.F2_0 ((0:Nat) + s.x19.toNat) then p.xh1_1 else p.F2_0 ((0:Nat) + s.x19.toNat))
noncomputable def e27_0_12 (p : P27_0) (s : S27_0) : (Prop) := ((∀ (i : Nat), scpL (0:Nat) ((fun (j : Nat) => [SV.int IntKind.u64 (p.F0_0 j), SV.int IntKind.u64 (p.F0_1 j)]) i) = true) ∧ (∀ (i : Nat), scpL (0:Nat) ((fun (j : Nat) => [SV.int IntKind.u64 (p.F2_0 j), SV.int IntKind.u64 (p.F2_1 j)]) i) = true) ∧ ∀ (i : Nat), scpL (0:Nat) ((fun (j : Nat) => [SV.int IntKind.u64 (s.F3_0 j), SV.int IntKind.u64 (s.F3_1 j)]) i) = true) ∧ (∀ (i : Nat), i < p.N0 → (fun (j : Nat) => [SV.int IntKind.u64 (p.F0_0 j), SV.int IntKind.u64 (p.F0_1 j)]) i = elC (fun (j : Nat) => [SV.int IntKind.u64 (p.F0_0 j), SV.int IntKind.u64 (p.F0_1 j)]) (0:Nat) [Ck.int IntKind.u64, Ck.int IntKind.u64] i) ∧ (∀ (i : Nat), i < p.N2 → (fun (j : Nat) => [SV.int IntKind.u64 (p.F2_0 j), SV.int IntKind.u64 (p.F2_1 j)]) i = elC (fun (j : Nat) => [SV.int IntKind.u64 (p.F2_0 j), SV.int IntKind.u64 (p.F2_1 j)]) (0:Nat) [Ck.int IntKind.u64, Ck.int IntKind.u64] i) ∧ ∀ (i : Nat), i < s.N3 → (fun (j : Nat) => [SV.int IntKind.u64 (s.F3_0 j), SV.int IntKind.u64 (s.F3_1 j)]) i = elC (fun (j : Nat) => [SV.int IntKind.u64 (s.F3_0 j), SV.int IntKind.u64 (s.F3_1 j)]) (0:Nat) [Ck.int IntKind.u64, Ck.int IntKind.u64] i
theorem n_e27_0_1 (p : P27_0) (s : S27_0) : e27_0_1 p s := by
  unfold e27_0_1
  first
    | (intros; rfl)
    | (intro i; rfl)
    | (intro i _; rfl)
    | (intro _ i; rfl)
    | (intro _ i _; rfl)
    | (refine ⟨?_, ?_⟩ <;> intro i <;> rfl)
    | (refine ⟨?_, ?_, ?_⟩ <;> intro i <;> rfl)
    | (refine ⟨?_, ?_⟩ <;> intro i _ <;> rfl)
    | (repeat' apply And.intro) <;> first | (intro i; rfl) | (intro i _; rfl) | (intro i h; exact absurd h (Nat.not_lt_zero i)) | (intro i; exact scpL_rowSet (by rfl) (by rfl)) | (intro i; exact scpL_rowEl (by kernel_rfl) _)
    | (intros; (repeat' apply And.intro) <;> intros <;> first | rfl | (exact absurd (by assumption) (Nat.not_lt_zero _)))
    | omega
    | decide
theorem n_e27_0_6 (p : P27_0) (s : S27_0) : e27_0_6 p s := by
  unfold e27_0_6
  first
    | (intros; rfl)
    | (intro i; rfl)
    | (intro i _; rfl)
    | (intro _ i; rfl)
    | (intro _ i _; rfl)
    | (refine ⟨?_, ?_⟩ <;> intro i <;> rfl)
    | (refine ⟨?_, ?_, ?_⟩ <;> intro i <;> rfl)
    | (refine ⟨?_, ?_⟩ <;> intro i _ <;> rfl)
    | (repeat' apply And.intro) <;> first | (intro i; rfl) | (intro i _; rfl) | (intro i h; exact absurd h (Nat.not_lt_zero i)) | (intro i; exact scpL_rowSet (by rfl) (by rfl)) | (intro i; exact scpL_rowEl (by kernel_rfl) _)
    | (intros; (repeat' apply And.intro) <;> intros <;> first | rfl | (exact absurd (by assumption) (Nat.not_lt_zero _)))
    | omega
    | decide
theorem n_e27_0_12 (p : P27_0) (s : S27_0) : e27_0_12 p s := by
  unfold e27_0_12
  first
    | (intros; rfl)
    | (intro i; rfl)
    | (intro i _; rfl)
    | (intro _ i; rfl)
    | (intro _ i _; rfl)
    | (refine ⟨?_, ?_⟩ <;> intro i <;> rfl)
    | (refine ⟨?_, ?_, ?_⟩ <;> intro i <;> rfl)
    | (refine ⟨?_, ?_⟩ <;> intro i _ <;> rfl)
    | (repeat' apply And.intro) <;> first | (intro i; rfl) | (intro i _; rfl) | (intro i h; exact absurd h (Nat.not_lt_zero i)) | (intro i; exact scpL_rowSet (by rfl) (by rfl)) | (intro i; exact scpL_rowEl (by kernel_rfl) _)
    | (intros; (repeat' apply And.intro) <;> intros <;> first | rfl | (exact absurd (by assumption) (Nat.not_lt_zero _)))
    | omega
    | decide
noncomputable def rf27_0 (p : P27_0) (s : S27_0) : Tr (Rs th.R S27_0) := (Tr.ite (e27_0_0 p s) (Tr.need (e27_0_1 p s) (Tr.leaf (Rs.out (Ex.exit ((0:Nat))) (none :: (none :: (none :: (List.cons (Option.some (SV.ptr ((1 : Nat)) ((0:Nat)))) (none :: (List.cons (Option.some (SV.slc (3) ((2 : Nat)) ((0:Nat)) (s.n5))) (List.cons (Option.some (SV.int (IntKind.u64) (s.x6))) (none :: (none :: (none :: (none :: (none :: (none :: (none :: (none :: (none :: (none :: (none :: (none :: (none :: (none :: (none :: (none :: (none :: (none :: (none :: (none :: (none :: (none :: (none :: (none :: (none :: (none :: (none :: (none :: (none :: (none :: (none :: (none :: (none :: (none :: (none :: (none :: (none :: (none :: (none :: (none :: (none :: (none :: (none :: (none :: (none :: [])))))))))))))))))))))))))))))))))))))))))))))))))))) (List.cons (HO.ro ((27 : Nat)) ((2 : Nat)) (p.N0) (fun j => (List.cons (SV.int (IntKind.u64) (p.F0_0 j)) (List.cons (SV.int (IntKind.u64) (p.F0_1 j)) []))) (p.O0)) (List.cons (HO.cells ((27 : Nat)) (List.cons (SV.int (IntKind.u64) (p.xh1_0)) (List.cons (SV.int (IntKind.u64) (p.xh1_1)) []))) (List.cons (HO.row ((27 : Nat)) ((2 : Nat)) (p.N2) (fun j => (List.cons (SV.int (IntKind.u64) (p.F2_0 j)) (List.cons (SV.int (IntKind.u64) (p.F2_1 j)) [])))) (List.cons (HO.row ((27 : Nat)) ((2 : Nat)) (s.N3) (fun j => (List.cons (SV.int (IntKind.u64) (s.F3_0 j)) (List.cons (SV.int (IntKind.u64) (s.F3_1 j)) [])))) []))))))) (Tr.need (e27_0_2 p s) (Tr.need (e27_0_3 p s) (Tr.need (e27_0_4 p s) (Tr.ite (e27_0_5 p s) (Tr.need (e27_0_6 p s) (Tr.leaf (Rs.on (S27_0.mk ((e27_0_7 p s)) ((e27_0_8 p s)) ((e27_0_9 p s)) ((e27_0_7 p s)) ((fun j => (e27_0_10 p s j))) ((fun j => (e27_0_11 p s j))))))) (Tr.need (e27_0_12 p s) (Tr.leaf (Rs.on (S27_0.mk (s.n5) ((e27_0_8 p s)) ((e27_0_9 p s)) (s.N3) (s.F3_0) (s.F3_1))))))))))
noncomputable def r27_0 (p : P27_0) (s : S27_0) : Tr (Rs th.R S27_0) := (Tr.ite (e27_0_0 p s) (Tr.leaf (Rs.out (Ex.exit ((0:Nat))) (none :: (none :: (none :: (List.cons (Option.some (SV.ptr ((1 : Nat)) ((0:Nat)))) (none :: (List.cons (Option.some (SV.slc (3) ((2 : Nat)) ((0:Nat)) (s.n5))) (List.cons (Option.some (SV.int (IntKind.u64) (s.x6))) (none :: (none :: (none :: (none :: (none :: (none :: (none :: (none :: (none :: (none :: (none :: (none :: (none :: (none :: (none :: (none :: (none :: (none :: (none :: (none :: (none :: (none :: (none :: (none :: (none :: (none :: (none :: (none :: (none :: (none :: (none :: (none :: (none :: (none :: (none :: (none :: (none :: (none :: (none :: (none :: (none :: (none :: (none :: (none :: (none :: [])))))))))))))))))))))))))))))))))))))))))))))))))))) (List.cons (HO.ro ((27 : Nat)) ((2 : Nat)) (p.N0) (fun j => (List.cons (SV.int (IntKind.u64) (p.F0_0 j)) (List.cons (SV.int (IntKind.u64) (p.F0_1 j)) []))) (p.O0)) (List.cons (HO.cells ((27 : Nat)) (List.cons (SV.int (IntKind.u64) (p.xh1_0)) (List.cons (SV.int (IntKind.u64) (p.xh1_1)) []))) (List.cons (HO.row ((27 : Nat)) ((2 : Nat)) (p.N2) (fun j => (List.cons (SV.int (IntKind.u64) (p.F2_0 j)) (List.cons (SV.int (IntKind.u64) (p.F2_1 j)) [])))) (List.cons (HO.row ((27 : Nat)) ((2 : Nat)) (s.N3) (fun j => (List.cons (SV.int (IntKind.u64) (s.F3_0 j)) (List.cons (SV.int (IntKind.u64) (s.F3_1 j)) [])))) [])))))) (Tr.need (e27_0_2 p s) (Tr.need (e27_0_3 p s) (Tr.need (e27_0_4 p s) (Tr.ite (e27_0_5 p s) (Tr.leaf (Rs.on (S27_0.mk ((e27_0_7 p s)) ((e27_0_8 p s)) ((e27_0_9 p s)) ((e27_0_7 p s)) ((fun j => (e27_0_10 p s j))) ((fun j => (e27_0_11 p s j)))))) (Tr.leaf (Rs.on (S27_0.mk (s.n5) ((e27_0_8 p s)) ((e27_0_9 p s)) (s.N3) (s.F3_0) (s.F3_1)))))))))
noncomputable def E27_0 : St th.R → Out th := evCode th Try.prog (auto th Try.prog nice36n [] 20) (autoH [] [] [] [4, 5, 47, 51] : Hints th) (lpAt Try.prog 27 0)
theorem B27_0 : CodeSound th Try.prog (lpAt Try.prog 27 0) E27_0 := evCode_sound (T := th) (P := Try.prog) (tbl := (auto th Try.prog nice36n [] 20)) (auto_sound (nice := nice36n) (us := []) nok36n 20) (autoH [] [] [] [4, 5, 47, 51] : Hints th) _ (LoopsOk_mem (fun _ => rfl) _ fun b hb L hL => by cases hL)
noncomputable def L27_0 : St th.R → Out th := loopL d27_0 ofV27_0 r27_0
theorem h1_27_0 (p : P27_0) (s : S27_0) : bld d27_0.tm (toV27_0 p s) = some (I27_0 p s) := by kernel_rfl
theorem h2_27_0 (l : List (Vl th.R)) (p : P27_0) (s : S27_0) (h : ofV27_0 l = some (p, s)) : l = toV27_0 p s := by
  unfold ofV27_0 at h
  split at h
  · cases h; rfl
  · cases h
theorem h3_27_0 (p : P27_0) (s : S27_0) : cvE d27_0 (E27_0 (I27_0 p s)) = some ((rf27_0 p s).map (Rs.map (toV27_0 p))) := by kernel_rfl
theorem h3g_27_0 (p : P27_0) (s : S27_0) : (rf27_0 p s).get = (r27_0 p s).get := by kernel_rfl
theorem h4_27_0 (p : P27_0) (s s1 : S27_0) : outH d27_0.dirt d27_0.n0 (r27_0 p s) = repH (maskH d27_0.dirt 0 d27_0.n0 (I27_0 p s1).heap) (r27_0 p s) := by kernel_rfl
theorem ls27_0 : CodeSound th Try.prog (.loop (lpAt Try.prog 27 0)) L27_0 := loopL_sound B27_0 d27_0 I27_0 toV27_0 (by kernel_rfl) h1_27_0 h2_27_0
  (fun p s => ⟨(rf27_0 p s).map (Rs.map (toV27_0 p)), h3_27_0 p s, fun h => by
    rw [Tr.map_ok]
    unfold r27_0 at h; unfold rf27_0
    simp only [Tr.ok, n_e27_0_1, n_e27_0_6, n_e27_0_12, true_and, and_true, forall_const, implies_true] at h ⊢
    try exact h, by rw [Tr.map_get, h3g_27_0 p s]⟩) h4_27_0
theorem ok27 : LoopsOk th Try.prog (autoH [(6, L27_0)] [] [] [4, 5, 47, 51] : Hints th) (bodyOf Try.prog 27) := autoH_ok (bs := [lpAt Try.prog 27 0]) (by kernel_rfl) fun b hb L hL => by
  simp only [List.mem_cons, List.not_mem_nil, or_false] at hb
  rcases hb with rfl
  · have e : lookL [(6, L27_0)] (firstReg (lpAt Try.prog 27 0)) = some L27_0 := by kernel_rfl
    rw [e] at hL; cases hL
    exact ls27_0
noncomputable def f27_0 (v : V27) : (Prop) := (!f11_0 v.wf v.wt) = false → ∀ (i : Nat), scpL (0:Nat) ((fun (j : Nat) => [SV.int IntKind.u64 (v.F j), SV.int IntKind.u64 (v.G j)]) i) = true
noncomputable def f27_1 (v : V27) : (Prop) := (!f11_0 v.wf v.wt) = false → ∀ (i : Nat), i < v.M → (fun (j : Nat) => [SV.int IntKind.u64 (v.F j), SV.int IntKind.u64 (v.G j)]) i = elC (fun (j : Nat) => [SV.int IntKind.u64 (v.F j), SV.int IntKind.u64 (v.G j)]) (0:Nat) [Ck.int IntKind.u64, Ck.int IntKind.u64] i
noncomputable def f27_2 (v : V27) : (Prop) := (!f11_0 v.wf v.wt) = false → pre36 (V36.mk v.L v.M v.ob v.F v.G)
noncomputable def f27_3 (v : V27) : (Prop) := (!f11_0 v.wf v.wt) = false → (∀ (i : Nat), scpL (0:Nat) ((fun (j : Nat) => [SV.int IntKind.u64 (v.F j), SV.int IntKind.u64 (v.G j)]) i) = true) ∧ ∀ (i : Nat), scpL (0:Nat) ((fun (j : Nat) => [SV.int IntKind.u64 (RSr (sp v.F v.G) v.L j).fst, SV.int IntKind.u64 (RSr (sp v.F v.G) v.L j).snd]) i) = true
noncomputable def f27_4 (v : V27) : (Prop) := (!f11_0 v.wf v.wt) = false → (∀ (i : Nat), i < v.M → (fun (j : Nat) => [SV.int IntKind.u64 (v.F j), SV.int IntKind.u64 (v.G j)]) i = elC (fun (j : Nat) => [SV.int IntKind.u64 (v.F j), SV.int IntKind.u64 (v.G j)]) (0:Nat) [Ck.int IntKind.u64, Ck.int IntKind.u64] i) ∧ (∀ (i : Nat), i < v.L → (fun (j : Nat) => [SV.int IntKind.u64 (RSr (sp v.F v.G) v.L j).fst, SV.int IntKind.u64 (RSr (sp v.F v.G) v.L j).snd]) i = elC (fun (j : Nat) => [SV.int IntKind.u64 (RSr (sp v.F v.G) v.L j).fst, SV.int IntKind.u64 (RSr (sp v.F v.G) v.L j).snd]) (0:Nat) [Ck.int IntKind.u64, Ck.int IntKind.u64] i) ∧ ∀ (i : Nat), i < (0:Nat) → (fun (j : Nat) => []) i = elC (fun (j : Nat) => []) (0:Nat) [Ck.int IntKind.u64, Ck.int IntKind.u64] i
noncomputable def f27_5 (v : V27) : (Prop) := (!f11_0 v.wf v.wt) = false → LT (r27_0 (P27_0.mk (RS (sp v.F v.G) v.L).length (↑(RS (sp v.F v.G) v.L).length : Int) v.M v.ob v.F v.G v.wf v.wt v.L (fun (j : Nat) => (RSr (sp v.F v.G) v.L j).fst) fun (j : Nat) => (RSr (sp v.F v.G) v.L j).snd)) (S27_0.mk (0:Nat) v.wf (0 : Int) (0:Nat) (colI (fun (j : Nat) => []) (0:Nat)) (colI (fun (j : Nat) => []) (1 : Nat)))
noncomputable def f27z0 (v : V27) : S27_0 := lastS (r27_0 (P27_0.mk (RS (sp v.F v.G) v.L).length (↑(RS (sp v.F v.G) v.L).length : Int) v.M v.ob v.F v.G v.wf v.wt v.L (fun (j : Nat) => (RSr (sp v.F v.G) v.L j).fst) fun (j : Nat) => (RSr (sp v.F v.G) v.L j).snd)) (S27_0.mk (0:Nat) v.wf (0 : Int) (0:Nat) (colI (fun (j : Nat) => []) (0:Nat)) (colI (fun (j : Nat) => []) (1 : Nat)))
noncomputable def f27_6 (v : V27) : (Prop) := (!f11_0 v.wf v.wt) = false → f11_0 (f27z0 v).x6 v.wt = true → (0:Nat) = (0:Nat) ∧ (f27z0 v).n5 ≤ (f27z0 v).N3 ∧ (1 : Nat) ≤ (1 : Nat) ∧ ((f27z0 v).n5 + (1 : Nat)) * (4096 : Nat) ≤ (140737488355328 : Nat) ∧ (f27z0 v).n5 + (1 : Nat) ≤ (9223372036854775807 : Nat)
noncomputable def f27_7 (v : V27) : (Bool) := !f11_0 v.wf v.wt
noncomputable def f27_8 (v : V27) : (Bool) := f11_0 (f27z0 v).x6 v.wt
noncomputable def f27_9 (v : V27) : (Nat) := (f27z0 v).n5 + (1 : Nat)
noncomputable def f27_10 (v : V27) : Nat → (Int) := fun j => (RSr (sp v.F v.G) v.L j).fst
noncomputable def f27_11 (v : V27) : Nat → (Int) := fun j => (RSr (sp v.F v.G) v.L j).snd
noncomputable def f27_12 (v : V27) : (Int) := (f27z0 v).x6
noncomputable def f27_13 (v : V27) : Nat → (Int) := fun u => (f27z0 v).x6
noncomputable def f27_14 (v : V27) : Nat → (Int) := fun i => cnd (i.blt (f27z0 v).n5) ((f27z0 v).F3_0 i) (f27z0 v).x6
noncomputable def f27_15 (v : V27) : Nat → (Int) := fun i => cnd (i.blt (f27z0 v).n5) ((f27z0 v).F3_1 i) v.wt
noncomputable def f27_16 (v : V27) : (Nat) := (f27z0 v).n5
noncomputable def f27_17 (v : V27) : (Nat) := (f27z0 v).N3
noncomputable def f27_18 (v : V27) : Nat → (Int) := fun j => (f27z0 v).F3_0 j
noncomputable def f27_19 (v : V27) : Nat → (Int) := fun j => (f27z0 v).F3_1 j
theorem n_f27_0 (v : V27) : f27_0 v := by
  unfold f27_0
  first
    | (intros; rfl)
    | (intro i; rfl)
    | (intro i _; rfl)
    | (intro _ i; rfl)
    | (intro _ i _; rfl)
    | (refine ⟨?_, ?_⟩ <;> intro i <;> rfl)
    | (refine ⟨?_, ?_, ?_⟩ <;> intro i <;> rfl)
    | (refine ⟨?_, ?_⟩ <;> intro i _ <;> rfl)
    | (repeat' apply And.intro) <;> first | (intro i; rfl) | (intro i _; rfl) | (intro i h; exact absurd h (Nat.not_lt_zero i)) | (intro i; exact scpL_rowSet (by rfl) (by rfl)) | (intro i; exact scpL_rowEl (by kernel_rfl) _)
    | (intros; (repeat' apply And.intro) <;> intros <;> first | rfl | (exact absurd (by assumption) (Nat.not_lt_zero _)))
    | omega
    | decide
theorem n_f27_1 (v : V27) : f27_1 v := by
  unfold f27_1
  first
    | (intros; rfl)
    | (intro i; rfl)
    | (intro i _; rfl)
    | (intro _ i; rfl)
    | (intro _ i _; rfl)
    | (refine ⟨?_, ?_⟩ <;> intro i <;> rfl)
    | (refine ⟨?_, ?_, ?_⟩ <;> intro i <;> rfl)
    | (refine ⟨?_, ?_⟩ <;> intro i _ <;> rfl)
    | (repeat' apply And.intro) <;> first | (intro i; rfl) | (intro i _; rfl) | (intro i h; exact absurd h (Nat.not_lt_zero i)) | (intro i; exact scpL_rowSet (by rfl) (by rfl)) | (intro i; exact scpL_rowEl (by kernel_rfl) _)
    | (intros; (repeat' apply And.intro) <;> intros <;> first | rfl | (exact absurd (by assumption) (Nat.not_lt_zero _)))
    | omega
    | decide
theorem n_f27_3 (v : V27) : f27_3 v := by
  unfold f27_3
  first
    | (intros; rfl)
    | (intro i; rfl)
    | (intro i _; rfl)
    | (intro _ i; rfl)
    | (intro _ i _; rfl)
    | (refine ⟨?_, ?_⟩ <;> intro i <;> rfl)
    | (refine ⟨?_, ?_, ?_⟩ <;> intro i <;> rfl)
    | (refine ⟨?_, ?_⟩ <;> intro i _ <;> rfl)
    | (repeat' apply And.intro) <;> first | (intro i; rfl) | (intro i _; rfl) | (intro i h; exact absurd h (Nat.not_lt_zero i)) | (intro i; exact scpL_rowSet (by rfl) (by rfl)) | (intro i; exact scpL_rowEl (by kernel_rfl) _)
    | (intros; (repeat' apply And.intro) <;> intros <;> first | rfl | (exact absurd (by assumption) (Nat.not_lt_zero _)))
    | omega
    | decide
theorem n_f27_4 (v : V27) : f27_4 v := by
  unfold f27_4
  first
    | (intros; rfl)
    | (intro i; rfl)
    | (intro i _; rfl)
    | (intro _ i; rfl)
    | (intro _ i _; rfl)
    | (refine ⟨?_, ?_⟩ <;> intro i <;> rfl)
    | (refine ⟨?_, ?_, ?_⟩ <;> intro i <;> rfl)
    | (refine ⟨?_, ?_⟩ <;> intro i _ <;> rfl)
    | (repeat' apply And.intro) <;> first | (intro i; rfl) | (intro i _; rfl) | (intro i h; exact absurd h (Nat.not_lt_zero i)) | (intro i; exact scpL_rowSet (by rfl) (by rfl)) | (intro i; exact scpL_rowEl (by kernel_rfl) _)
    | (intros; (repeat' apply And.intro) <;> intros <;> first | rfl | (exact absurd (by assumption) (Nat.not_lt_zero _)))
    | omega
    | decide
noncomputable def ff27 (v : V27) : Tr (Fin th.R) := (Tr.need (f27_0 v) (Tr.need (f27_1 v) (Tr.need (f27_2 v) (Tr.need (f27_3 v) (Tr.need (f27_4 v) (Tr.need (f27_5 v) (Tr.need (f27_6 v) (Tr.ite (f27_7 v) (Tr.leaf (Prod.mk (SV.nils) (Prod.mk (List.cons (HO.ro ((27 : Nat)) ((2 : Nat)) (v.M) (fun j => (List.cons (SV.int (IntKind.u64) (v.F j)) (List.cons (SV.int (IntKind.u64) (v.G j)) []))) (v.ob)) []) []))) (Tr.ite (f27_8 v) (Tr.leaf (Prod.mk (SV.slc (6) (2) ((0:Nat)) (f27_9 v)) (Prod.mk (List.cons (HO.ro ((27 : Nat)) ((2 : Nat)) (v.M) (fun j => (List.cons (SV.int (IntKind.u64) (v.F j)) (List.cons (SV.int (IntKind.u64) (v.G j)) []))) (v.ob)) (List.cons (HO.cells ((27 : Nat)) (List.cons (SV.int (IntKind.u64) (v.wf)) (List.cons (SV.int (IntKind.u64) (v.wt)) []))) (List.cons (HO.row ((27 : Nat)) ((2 : Nat)) (v.L) (fun j => (List.cons (SV.int (IntKind.u64) (f27_10 v j)) (List.cons (SV.int (IntKind.u64) (f27_11 v j)) [])))) (List.cons (HO.gone) (List.cons (HO.cells ((27 : Nat)) (List.cons (SV.int (IntKind.u64) (f27_12 v)) (List.cons (SV.int (IntKind.u64) (v.wt)) []))) (List.cons (HO.row ((27 : Nat)) (2) ((1 : Nat)) (fun u => (List.cons (SV.int (IntKind.u64) (f27_13 v u)) (List.cons (SV.int (IntKind.u64) (v.wt)) [])))) (List.cons (HO.row ((27 : Nat)) (2) (f27_9 v) (fun i => (List.cons (SV.int (IntKind.u64) (f27_14 v i)) (List.cons (SV.int (IntKind.u64) (f27_15 v i)) [])))) []))))))) (List.cons ((3 : Nat)) (List.cons (4) []))))) (Tr.leaf (Prod.mk (SV.slc ((3 : Nat)) ((2 : Nat)) ((0:Nat)) (f27_16 v)) (Prod.mk (List.cons (HO.ro ((27 : Nat)) ((2 : Nat)) (v.M) (fun j => (List.cons (SV.int (IntKind.u64) (v.F j)) (List.cons (SV.int (IntKind.u64) (v.G j)) []))) (v.ob)) (List.cons (HO.cells ((27 : Nat)) (List.cons (SV.int (IntKind.u64) (v.wf)) (List.cons (SV.int (IntKind.u64) (v.wt)) []))) (List.cons (HO.row ((27 : Nat)) ((2 : Nat)) (v.L) (fun j => (List.cons (SV.int (IntKind.u64) (f27_10 v j)) (List.cons (SV.int (IntKind.u64) (f27_11 v j)) [])))) (List.cons (HO.row ((27 : Nat)) ((2 : Nat)) (f27_17 v) (fun j => (List.cons (SV.int (IntKind.u64) (f27_18 v j)) (List.cons (SV.int (IntKind.u64) (f27_19 v j)) [])))) (List.cons (HO.cells ((27 : Nat)) (List.cons (SV.int (IntKind.u64) (f27_12 v)) (List.cons (SV.int (IntKind.u64) (v.wt)) []))) []))))) (List.cons (4) [])))))))))))))
noncomputable def f27 (v : V27) : Tr (Fin th.R) := (Tr.need (f27_2 v) (Tr.need (f27_5 v) (Tr.need (f27_6 v) (Tr.ite (f27_7 v) (Tr.leaf (Prod.mk (SV.nils) (Prod.mk (List.cons (HO.ro ((27 : Nat)) ((2 : Nat)) (v.M) (fun j => (List.cons (SV.int (IntKind.u64) (v.F j)) (List.cons (SV.int (IntKind.u64) (v.G j)) []))) (v.ob)) []) ([])))) (Tr.ite (f27_8 v) (Tr.leaf (Prod.mk (SV.slc (6) (2) ((0:Nat)) (f27_9 v)) (Prod.mk (List.cons (HO.ro ((27 : Nat)) ((2 : Nat)) (v.M) (fun j => (List.cons (SV.int (IntKind.u64) (v.F j)) (List.cons (SV.int (IntKind.u64) (v.G j)) []))) (v.ob)) (List.cons (HO.cells ((27 : Nat)) (List.cons (SV.int (IntKind.u64) (v.wf)) (List.cons (SV.int (IntKind.u64) (v.wt)) []))) (List.cons (HO.row ((27 : Nat)) ((2 : Nat)) (v.L) (fun j => (List.cons (SV.int (IntKind.u64) (f27_10 v j)) (List.cons (SV.int (IntKind.u64) (f27_11 v j)) [])))) (List.cons (HO.gone) (List.cons (HO.cells ((27 : Nat)) (List.cons (SV.int (IntKind.u64) (f27_12 v)) (List.cons (SV.int (IntKind.u64) (v.wt)) []))) (List.cons (HO.row ((27 : Nat)) (2) ((1 : Nat)) (fun u => (List.cons (SV.int (IntKind.u64) (f27_13 v u)) (List.cons (SV.int (IntKind.u64) (v.wt)) [])))) (List.cons (HO.row ((27 : Nat)) (2) (f27_9 v) (fun i => (List.cons (SV.int (IntKind.u64) (f27_14 v i)) (List.cons (SV.int (IntKind.u64) (f27_15 v i)) [])))) []))))))) ([])))) (Tr.leaf (Prod.mk (SV.slc ((3 : Nat)) ((2 : Nat)) ((0:Nat)) (f27_16 v)) (Prod.mk (List.cons (HO.ro ((27 : Nat)) ((2 : Nat)) (v.M) (fun j => (List.cons (SV.int (IntKind.u64) (v.F j)) (List.cons (SV.int (IntKind.u64) (v.G j)) []))) (v.ob)) (List.cons (HO.cells ((27 : Nat)) (List.cons (SV.int (IntKind.u64) (v.wf)) (List.cons (SV.int (IntKind.u64) (v.wt)) []))) (List.cons (HO.row ((27 : Nat)) ((2 : Nat)) (v.L) (fun j => (List.cons (SV.int (IntKind.u64) (f27_10 v j)) (List.cons (SV.int (IntKind.u64) (f27_11 v j)) [])))) (List.cons (HO.row ((27 : Nat)) ((2 : Nat)) (f27_17 v) (fun j => (List.cons (SV.int (IntKind.u64) (f27_18 v j)) (List.cons (SV.int (IntKind.u64) (f27_19 v j)) [])))) (List.cons (HO.cells ((27 : Nat)) (List.cons (SV.int (IntKind.u64) (f27_12 v)) (List.cons (SV.int (IntKind.u64) (v.wt)) []))) []))))) ([])))))))))
noncomputable def C27 : CF th.R := fnC d27 ofV27 (f27 )
theorem q27 (v : V27) : (evFn th Try.prog (auto th Try.prog nice36n [] 20) (autoH [(6, L27_0)] [] [] [4, 5, 47, 51] : Hints th) 27) (A27 v) (H27 v) = some (ff27 v) := by kernel_rfl
theorem qg27 (v : V27) : ((ff27 v).map (setD [])).get = (f27 v).get := by kernel_rfl
theorem qd27 (v : V27) : allD 1 [] (ff27 v) = true := by kernel_rfl
theorem s27 : Sound Try.prog th 27 (C27 ) := fnC_sound (evFn_sound' (T := th) (P := Try.prog) (tbl := (auto th Try.prog nice36n [] 20)) (auto_sound (nice := nice36n) (us := []) nok36n 20) (H := (autoH [(6, L27_0)] [] [] [4, 5, 47, 51] : Hints th)) (k := 27) (fnLoops ok27)) d27 A27 H27 toV27 (by kernel_rfl) (fun v => by kernel_rfl)
  (fun l v h => by
    unfold ofV27 at h
    split at h
    · cases h; rfl
    · cases h)
  [] (fun v => ⟨ff27 v, q27 v, fun h => by
    unfold f27 at h; unfold ff27
    simp only [Tr.ok, n_f27_0, n_f27_1, n_f27_3, n_f27_4, true_and, and_true, forall_const, implies_true] at h ⊢
    try exact h, qg27 v, qd27 v⟩)
theorem qdd27 (v : V27) : (f27 v).get.2.2 = [] := by
  rw [← qg27, Tr.map_get]; rfl
end Go.Sx.S

namespace Go.Sx.S
open Go Go.Sx Go.Proofs Go.RowKit
set_option maxRecDepth 100000
structure V24 where
  L : Nat
  M : Nat
  ob : Obj
  F : Nat → Int
  G : Nat → Int
def A24 (v : V24) : List SV := [.slc 0 2 0 v.L]
def H24 (v : V24) : List (HO th.R) := [.ro 27 2 v.M (fun j => [.int .u64 (v.F j), .int .u64 (v.G j)]) v.ob]
def toV24 (v : V24) : List (Vl th.R) := [.n v.L, .n v.M, .o v.ob, .c v.F, .c v.G]
def ofV24 : List (Vl th.R) → Option V24
  | [.n L, .n M, .o ob, .c F, .c G] => some ⟨L, M, ob, F, G⟩
  | _ => none
def d24 : Ft := ⟨[.slc0 0 2], [.roc 27 [.int .u64, .int .u64]]⟩
structure P24_0 where
  n8 : Nat
  x9 : Int
  N0 : Nat
  O0 : Obj
  F0_0 : Nat → Int
  F0_1 : Nat → Int
  N1 : Nat
  F1_0 : Nat → Int
  F1_1 : Nat → Int
structure S24_0 where
  n3 : Nat
  x10 : Int
  N2 : Nat
  F2_0 : Nat → Int
  F2_1 : Nat → Int
instance : Inhabited S24_0 := ⟨⟨0, 0, 0, fun _ => 0, fun _ => 0⟩⟩
def I24_0 (p : P24_0) (s : S24_0) : St th.R := ⟨[none, none, none, some (.slc 2 2 0 s.n3), none, none, none, none, some (.slc 1 2 0 p.n8), some (.int .i64 p.x9), some (.int .i64 s.x10), none, none, none, none, none, none, none, none, none, none, none, none, none, none, none, none, none, none, none, none, none, none, none, none, none, none, none, none, none, none, none, none, none, none, none, none, none, none], [.ro 27 2 p.N0 (fun j => [.int .u64 (p.F0_0 j), .int .u64 (p.F0_1 j)]) p.O0, .row 27 2 p.N1 (fun j => [.int .u64 (p.F1_0 j), .int .u64 (p.F1_1 j)]), .row 27 2 s.N2 (fun j => [.int .u64 (s.F2_0 j), .int .u64 (s.F2_1 j)])], [], []⟩
def d24_0 : Lp := ⟨⟨49, [(3, .slc0 2 2), (8, .slc0 1 2), (9, .int .i64), (10, .int .i64)], [.roc 27 [.int .u64, .int .u64], .rowc 27 [.int .u64, .int .u64], .rowc 27 [.int .u64, .int .u64]]⟩, [⟨3, 27, 2⟩], 2, [], [3], []⟩
def toV24_0 (p : P24_0) (s : S24_0) : List (Vl th.R) := [.n s.n3, .n p.n8, .i p.x9, .i s.x10, .n p.N0, .o p.O0, .c p.F0_0, .c p.F0_1, .n p.N1, .c p.F1_0, .c p.F1_1, .n s.N2, .c s.F2_0, .c s.F2_1]
def ofV24_0 : List (Vl th.R) → Option (P24_0 × S24_0)
  | [.n n3, .n n8, .i x9, .i x10, .n N0, .o O0, .c F0_0, .c F0_1, .n N1, .c F1_0, .c F1_1, .n N2, .c F2_0, .c F2_1] => some (⟨n8, x9, N0, O0, F0_0, F0_1, N1, F1_0, F1_1⟩, ⟨n3, x10, N2, F2_0, F2_1⟩)
  | _ => none
noncomputable def e24_0_0 (p : P24_0) (s : S24_0) : (Bool) := cnd (decide (s.x10 < p.x9)) false true
noncomputable def e24_0_1 (p : P24_0) (s : S24_0) : (Prop) := (∀ (i : Nat), scpL (0:Nat) ((fun (j : Nat) => [SV.int IntKind.u64 (p.F0_0 j), SV.int IntKind.u64 (p.F0_1 j)]) i) = true) ∧ (∀ (i : Nat), scpL (0:Nat) ((fun (j : Nat) => [SV.int IntKind.u64 (p.F1_0 j), SV.int IntKind.u64 (p.F1_1 j)]) i) = true) ∧ ∀ (i : Nat), scpL (0:Nat) ((fun (j : Nat) => [SV.int IntKind.u64 (s.F2_0 j), SV.int IntKind.u64 (s.F2_1 j)]) i) = true
noncomputable def e24_0_2 (p : P24_0) (s : S24_0) : (Prop) := (0 : Int) ≤ s.x10 ∧ s.x10 < (↑p.n8 : Int)
noncomputable def e24_0_3 (p : P24_0) (s : S24_0) : (Prop) := (0:Nat) + s.x10.toNat < p.N1
noncomputable def e24_0_4 (p : P24_0) (s : S24_0) : (Prop) := (cnd (decide ((↑s.n3 : Int) > (0 : Int))) true false = true → (0 : Int) ≤ IntKind.i64.wrap ((↑s.n3 : Int) - (1 : Int)) ∧ IntKind.i64.wrap ((↑s.n3 : Int) - (1 : Int)) < (↑s.n3 : Int)) ∧ (cnd (decide ((↑s.n3 : Int) > (0 : Int))) true false = true → (0:Nat) + (IntKind.i64.wrap ((↑s.n3 : Int) - (1 : Int))).toNat < s.N2)
noncomputable def e24_0_5 (p : P24_0) (s : S24_0) : (Prop) := cnd (decide ((↑s.n3 : Int) > (0 : Int))) (decide (p.F1_0 ((0:Nat) + s.x10.toNat) ≤ s.F2_1 ((0:Nat) + (IntKind.i64.wrap ((↑s.n3 : Int) - (1 : Int))).toNat))) false = true → (true = true → (0 : Int) ≤ IntKind.i64.wrap ((↑s.n3 : Int) - (1 : Int)) ∧ IntKind.i64.wrap ((↑s.n3 : Int) - (1 : Int)) < (↑s.n3 : Int)) ∧ (true = true → (0:Nat) + (IntKind.i64.wrap ((↑s.n3 : Int) - (1 : Int))).toNat < s.N2) ∧ (true = true → (0 : Int) ≤ IntKind.i64.wrap ((↑s.n3 : Int) - (1 : Int)) ∧ IntKind.i64.wrap ((↑s.n3 : Int) - (1 : Int)) < (↑s.n3 : Int)) ∧ (0:Nat) + (IntKind.i64.wrap ((↑s.n3 : Int) - (1 : Int))).toNat < s.N2 ∧ (2 : Nat) = (2 : Nat)
noncomputable def e24_0_6 (p : P24_0) (s : S24_0) : (Prop) := cnd (decide ((↑s.n3 : Int) > (0 : Int))) (decide (p.F1_0 ((0:Nat) + s.x10.toNat) ≤ s.F2_1 ((0:Nat) + (IntKind.i64.wrap ((↑s.n3 : Int) - (1 : Int))).toNat))) false = false → (0:Nat) = (0:Nat) ∧ s.n3 ≤ s.N2 ∧ (1 : Nat) ≤ (1 : Nat) ∧ (s.n3 + (1 : Nat)) * (4096 : Nat) ≤ (140737488355328 : Nat) ∧ s.n3 + (1 : Nat) ≤ (9223372036854775807 : Nat)
noncomputable def e24_0_7 (p : P24_0) (s : S24_0) : (Bool) := cnd (decide ((↑s.n3 : Int) > (0 : Int))) (decide (p.F1_0 ((0:Nat) + s.x10.toNat) ≤ s.F2_1 ((0:Nat) + (IntKind.i64.wrap ((↑s.n3 : Int) - (1 : Int))).toNat))) false
noncomputable def e24_0_8 (p : P24_0) (s : S24_0) : (Prop) := ((∀ (i : Nat), scpL (0:Nat) ((fun (j : Nat) => [SV.int IntKind.u64 (p.F0_0 j), SV.int IntKind.u64 (p.F0_1 j)]) i) = true) ∧ (∀ (i : Nat), scpL (0:Nat) ((fun (j : Nat) => [SV.int IntKind.u64 (p.F1_0 j), SV.int IntKind.u64 (p.F1_1 j)]) i) = true) ∧ ∀ (i : Nat), scpL (0:Nat) ((fun (j : Nat) => rowSet (j.beq ((0:Nat) + (IntKind.i64.wrap ((↑s.n3 : Int) - (1 : Int))).toNat)) (splice ((fun (j : Nat) => [SV.int IntKind.u64 (s.F2_0 j), SV.int IntKind.u64 (s.F2_1 j)]) ((0:Nat) + (IntKind.i64.wrap ((↑s.n3 : Int) - (1 : Int))).toNat)) (1 : Nat) (SV.int IntKind.u64 (if p.F1_1 ((0:Nat) + s.x10.toNat) > s.F2_1 ((0:Nat) + (IntKind.i64.wrap ((↑s.n3 : Int) - (1 : Int))).toNat) then p.F1_1 ((0:Nat) + s.x10.toNat) else s.F2_1 ((0:Nat) + (IntKind.i64.wrap ((↑s.n3 : Int) - (1 : Int))).toNat))).cells) ((fun (j : Nat) => [SV.int IntKind.u64 (s.F2_0 j), SV.int IntKind.u64 (s.F2_1 j)]) j)) i) = true) ∧ (∀ (i : Nat), i < p.N0 → (fun (j : Nat) => [SV.int IntKind.u64 (p.F0_0 j), SV.int IntKind.u64 (p.F0_1 j)]) i = elC (fun (j : Nat) => [SV.int IntKind.u64 (p.F0_0 j), SV.int IntKind.u64 (p.F0_1 j)]) (0:Nat) [Ck.int IntKind.u64, Ck.int IntKind.u64] i) ∧ (∀ (i : Nat), i < p.N1 → (fun (j : Nat) => [SV.int IntKind.u64 (p.F1_0 j), SV.int IntKind.u64 (p.F1_1 j)]) i = elC (fun (j : Nat) => [SV.int IntKind.u64 (p.F1_0 j), SV.int IntKind.u64 (p.F1_1 j)]) (0:Nat) [Ck.int IntKind.u64, Ck.int IntKind.u64] i) ∧ ∀ (i : Nat), i < s.N2 → (fun (j : Nat) => rowSet (j.beq ((0:Nat) + (IntKind.i64.wrap ((↑s.n3 : Int) - (1 : Int))).toNat)) (splice ((fun (j : Nat) => [SV.int IntKind.u64 (s.F2_0 j), SV.int IntKind.u64 (s.F2_1 j)]) ((0:Nat) + (IntKind.i64.wrap ((↑s.n3 : Int) - (1 : Int))).toNat)) (1 : Nat) (SV.int IntKind.u64 (if p.F1_1 ((0:Nat) + s.x10.toNat) > s.F2_1 ((0:Nat) + (IntKind.i64.wrap ((↑s.n3 : Int) - (1 : Int))).toNat) then p.F1_1 ((0:Nat) + s.x10.toNat) else s.F2_1 ((0:Nat) + (IntKind.i64.wrap ((↑s.n3 : Int) - (1 : Int))).toNat))).cells) ((fun (j : Nat) => [SV.int IntKind.u64 (s.F2_0 j), SV.int IntKind.u64 (s.F2_1 j)]) j)) i = elC (fun (j : Nat) => rowSet (j.beq ((0:Nat) + (IntKind.i64.wrap ((↑s.n3 : Int) - (1 : Int))).toNat)) (splice ((fun (j : Nat) => [SV.int IntKind.u64 (s.F2_0 j), SV.int IntKind.u64 (s.F2_1 j)]) ((0:Nat) + (IntKind.i64.wrap ((↑s.n3 : Int) - (1 : Int))).toNat)) (1 : Nat) (SV.int IntKind.u64 (if p.F1_1 ((0:Nat) + s.x10.toNat) > s.F2_1 ((0:Nat) + (IntKind.i64.wrap ((↑s.n3 : Int) - (1 : Int))).toNat) then p.F1_1 ((0:Nat) + s.x10.toNat) else s.F2_1 ((0:Nat) + (IntKind.i64.wrap ((↑s.n3 : Int) - (1 : Int))).toNat))).cells) ((fun (j : Nat) => [SV.int IntKind.u64 (s.F2_0 j), SV.int IntKind.u64 (s.F2_1 j)]) j)) (0:Nat) [Ck.int IntKind.u64, Ck.int IntKind.u64] i
noncomputable def e24_0_9 (p : P24_0) (s : S24_0) : (Int) := IntKind.i64.wrap (s.x10 + (1 : Int))
noncomputable def e24_0_10 (p : P24_0) (s : S24_0) : Nat → (Int) := fun j => cnd (j.beq ((0:Nat) + (IntKind.i64.wrap ((↑s.n3 : Int) - (1 : Int))).toNat)) (s.F2_0 ((0:Nat) + (IntKind.i64.wrap ((↑s.n3 : Int) - (1 : Int))).toNat)) (s.F2_0 j)
noncomputable def e24_0_11 (p : P24_0) (s : S24_0) : Nat → (Int) := fun j => cnd (j.beq ((0:Nat) + (IntKind.i64.wrap ((↑s.n3 : Int) - (1 : Int))).toNat)) (if p.F1_1 ((0:Nat) + s.x10.toNat) > s.F2_1 ((0:Nat) + (IntKind.i64.wrap ((↑s.n3 : Int) - (1 : Int))).toNat) then p.F1_1 ((0:Nat) + s.x10.toNat) else s.F2_1 ((0:Nat) + (IntKind.i64.wrap ((↑s.n3 : Int) - (1 : Int))).toNat)) (s.F2_1 j)
noncomputable def e24_0_12 (p : P24_0) (s : S24_0) : (Prop) := ((∀ (i : Nat), scpL (0:Nat) ((fun (j : Nat) => [SV.int IntKind.u64 (p.F0_0 j), SV.int IntKind.u64 (p.F0_1 j)]) i) = true) ∧ (∀ (i : Nat), scpL (0:Nat) ((fun (j : Nat) => [SV.int IntKind.u64 (p.F1_0 j), SV.int IntKind.u64 (p.F1_1 j)]) i) = true) ∧ ∀ (i : Nat), scpL (0:Nat) ((fun (i : Nat) => rowSet (i.blt s.n3) ((fun (j : Nat) => [SV.int IntKind.u64 (s.F2_0 j), SV.int IntKind.u64 (s.F2_1 j)]) i) (rowEl (1 : Nat) (2 : Nat) (setMany (List.map (fun (i : Nat) => [SV.int IntKind.u64 (0 : Int), SV.int IntKind.u64 (0 : Int)].getD (i % (2 : Nat)) Inhabited.default) (List.range (2 : Nat))) (0:Nat) (SV.agg (List.take (2 : Nat) (List.drop (0:Nat) (splice [SV.int IntKind.u64 (0 : Int), SV.int IntKind.u64 (0 : Int)] (0:Nat) (SV.agg (List.take (2 : Nat) (List.drop (0:Nat) ((fun (j : Nat) => [SV.int IntKind.u64 (p.F1_0 j), SV.int IntKind.u64 (p.F1_1 j)]) ((0:Nat) + s.x10.toNat))))).cells)))).cells) ((0:Nat) + (i - s.n3)))) i) = true) ∧ (∀ (i : Nat), i < p.N0 → (fun (j : Nat) => [SV.int IntKind.u64 (p.F0_0 j), SV.int IntKind.u64 (p.F0_1 j)]) i = elC (fun (j : Nat) => [SV.int IntKind.u64 (p.F0_0 j), SV.int IntKind.u64 (p.F0_1 j)]) (0:Nat) [Ck.int IntKind.u64, Ck.int IntKind.u64] i) ∧ (∀ (i : Nat), i < p.N1 → (fun (j : Nat) => [SV.int IntKind.u64 (p.F1_0 j), SV.int IntKind.u64 (p.F1_1 j)]) i = elC (fun (j : Nat) => [SV.int IntKind.u64 (p.F1_0 j), SV.int IntKind.u64 (p.F1_1 j)]) (0:Nat) [Ck.int IntKind.u64, Ck.int IntKind.u64] i) ∧ ∀ (i : Nat), i < s.n3 + (1 : Nat) → (fun (i : Nat) => rowSet (i.blt s.n3) ((fun (j : Nat) => [SV.int IntKind.u64 (s.F2_0 j), SV.int IntKind.u64 (s.F2_1 j)]) i) (rowEl (1 : Nat) (2 : Nat) (setMany (List.map (fun (i : Nat) => [SV.int IntKind.u64 (0 : Int), SV.int IntKind.u64 (0 : Int)].getD (i % (2 : Nat)) Inhabited.default) (List.range (2 : Nat))) (0:Nat) (SV.agg (List.take (2 : Nat) (List.drop (0:Nat) (splice [SV.int IntKind.u64 (0 : Int), SV.int IntKind.u64 (0 : Int)] (0:Nat) (SV.agg (List.take (2 : Nat) (List.drop (0:Nat) ((fun (j : Nat) => [SV.int IntKind.u64 (p.F1_0 j), SV.int IntKind.u64 (p.F1_1 j)]) ((0:Nat) + s.x10.toNat))))).cells)))).cells) ((0:Nat) + (i - s.n3)))) i = elC (fun (i : Nat) => rowSet (i.blt s.n3) ((fun (j : Nat) => [SV.int IntKind.u64 (s.F2_0 j), SV.int IntKind.u64 (s.F2_1 j)]) i) (rowEl (1 : Nat) (2 : Nat) (setMany (List.map (fun (i : Nat) => [SV.int IntKind.u64 (0 : Int), SV.int IntKind.u64 (0 : Int)].getD (i % (2 : Nat)) Inhabited.default) (List.range (2 : Nat))) (0:Nat) (SV.agg (List.take (2 : Nat) (List.drop (0:Nat) (splice [SV.int IntKind.u64 (0 : Int), SV.int IntKind.u64 (0 : Int)] (0:Nat) (SV.agg (List.take (2 : Nat) (List.drop (0:Nat) ((fun (j : Nat) => [SV.int IntKind.u64 (p.F1_0 j), SV.int IntKind.u64 (p.F1_1 j)]) ((0:Nat) + s.x10.toNat))))).cells)))).cells) ((0:Nat) + (i - s.n3)))) (0:Nat) [Ck.int IntKind.u64, Ck.int IntKind.u64] i
noncomputable def e24_0_13 (p : P24_0) (s : S24_0) : (Nat) := s.n3 + (1 : Nat)
noncomputable def e24_0_14 (p : P24_0) (s : S24_0) : Nat → (Int) := fun j => cnd (j.blt s.n3) (s.F2_0 j) (p.F1_0 ((0:Nat) + s.x10.toNat))
noncomputable def e24_0_15 (p : P24_0) (s : S24_0) : Nat → (Int) := fun j => cnd (j.blt s.n3) (s.F2_1 j) (p.F1_1 ((0:Nat) + s.x10.toNat))
theorem n_e24_0_1 (p : P24_0) (s : S24_0) : e24_0_1 p s := by
  unfold e24_0_1
  first
    | (intros; rfl)
    | (intro i; rfl)
    | (intro i _; rfl)
    | (intro _ i; rfl)
    | (intro _ i _; rfl)
    | (refine ⟨?_, ?_⟩ <;> intro i <;> rfl)
    | (refine ⟨?_, ?_, ?_⟩ <;> intro i <;> rfl)
    | (refine ⟨?_, ?_⟩ <;> intro i _ <;> rfl)
    | (repeat' apply And.intro) <;> first | (intro i; rfl) | (intro i _; rfl) | (intro i h; exact absurd h (Nat.not_lt_zero i)) | (intro i; exact scpL_rowSet (by rfl) (by rfl)) | (intro i; exact scpL_rowEl (by kernel_rfl) _)
    | (intros; (repeat' apply And.intro) <;> intros <;> first | rfl | (exact absurd (by assumption) (Nat.not_lt_zero _)))
    | omega
    | decide
theorem n_e24_0_8 (p : P24_0) (s : S24_0) : e24_0_8 p s := by
  unfold e24_0_8
  first
    | (intros; rfl)
    | (intro i; rfl)
    | (intro i _; rfl)
    | (intro _ i; rfl)
    | (intro _ i _; rfl)
    | (refine ⟨?_, ?_⟩ <;> intro i <;> rfl)
    | (refine ⟨?_, ?_, ?_⟩ <;> intro i <;> rfl)
    | (refine ⟨?_, ?_⟩ <;> intro i _ <;> rfl)
    | (repeat' apply And.intro) <;> first | (intro i; rfl) | (intro i _; rfl) | (intro i h; exact absurd h (Nat.not_lt_zero i)) | (intro i; exact scpL_rowSet (by rfl) (by rfl)) | (intro i; exact scpL_rowEl (by kernel_rfl) _)
    | (intros; (repeat' apply And.intro) <;> intros <;> first | rfl | (exact absurd (by assumption) (Nat.not_lt_zero _)))
    | omega
    | decide
theorem n_e24_0_12 (p : P24_0) (s : S24_0) : e24_0_12 p s := by
  unfold e24_0_12
  first
    | (intros; rfl)
    | (intro i; rfl)
    | (intro i _; rfl)
    | (intro _ i; rfl)
    | (intro _ i _; rfl)
    | (refine ⟨?_, ?_⟩ <;> intro i <;> rfl)
    | (refine ⟨?_, ?_, ?_⟩ <;> intro i <;> rfl)
    | (refine ⟨?_, ?_⟩ <;> intro i _ <;> rfl)
    | (repeat' apply And.intro) <;> first | (intro i; rfl) | (intro i _; rfl) | (intro i h; exact absurd h (Nat.not_lt_zero i)) | (intro i; exact scpL_rowSet (by rfl) (by rfl)) | (intro i; exact scpL_rowEl (by kernel_rfl) _)
    | (intros; (repeat' apply And.intro) <;> intros <;> first | rfl | (exact absurd (by assumption) (Nat.not_lt_zero _)))
    | omega
    | decide
noncomputable def rf24_0 (p : P24_0) (s : S24_0) : Tr (Rs th.R S24_0) := (Tr.ite (e24_0_0 p s) (Tr.need (e24_0_1 p s) (Tr.leaf (Rs.out (Ex.exit ((0:Nat))) (none :: (none :: (none :: (List.cons (Option.some (SV.slc (2) ((2 : Nat)) ((0:Nat)) (s.n3))) (none :: (none :: (none :: (none :: (none :: (none :: (none :: (none :: (none :: (none :: (none :: (none :: (none :: (none :: (none :: (none :: (none :: (none :: (none :: (none :: (none :: (none :: (none :: (none :: (none :: (none :: (none :: (none :: (none :: (none :: (none :: (none :: (none :: (none :: (none :: (none :: (none :: (none :: (none :: (none :: (none :: (none :: (none :: (none :: (none :: []))))))))))))))))))))))))))))))))))))))))))))))))) (List.cons (HO.ro ((27 : Nat)) ((2 : Nat)) (p.N0) (fun j => (List.cons (SV.int (IntKind.u64) (p.F0_0 j)) (List.cons (SV.int (IntKind.u64) (p.F0_1 j)) []))) (p.O0)) (List.cons (HO.row ((27 : Nat)) ((2 : Nat)) (p.N1) (fun j => (List.cons (SV.int (IntKind.u64) (p.F1_0 j)) (List.cons (SV.int (IntKind.u64) (p.F1_1 j)) [])))) (List.cons (HO.row ((27 : Nat)) ((2 : Nat)) (s.N2) (fun j => (List.cons (SV.int (IntKind.u64) (s.F2_0 j)) (List.cons (SV.int (IntKind.u64) (s.F2_1 j)) [])))) [])))))) (Tr.need (e24_0_2 p s) (Tr.need (e24_0_3 p s) (Tr.need (e24_0_4 p s) (Tr.need (e24_0_5 p s) (Tr.need (e24_0_6 p s) (Tr.ite (e24_0_7 p s) (Tr.need (e24_0_8 p s) (Tr.leaf (Rs.on (S24_0.mk (s.n3) ((e24_0_9 p s)) (s.N2) ((fun j => (e24_0_10 p s j))) ((fun j => (e24_0_11 p s j))))))) (Tr.need (e24_0_12 p s) (Tr.leaf (Rs.on (S24_0.mk ((e24_0_13 p s)) ((e24_0_9 p s)) ((e24_0_13 p s)) ((fun j => (e24_0_14 p s j))) ((fun j => (e24_0_15 p s j))))))))))))))
noncomputable def r24_0 (p : P24_0) (s : S24_0) : Tr (Rs th.R S24_0) := (Tr.ite (e24_0_0 p s) (Tr.leaf (Rs.out (Ex.exit ((0:Nat))) (none :: (none :: (none :: (List.cons (Option.some (SV.slc (2) ((2 : Nat)) ((0:Nat)) (s.n3))) (none :: (none :: (none :: (none :: (none :: (none :: (none :: (none :: (none :: (none :: (none :: (none :: (none :: (none :: (none :: (none :: (none :: (none :: (none :: (none :: (none :: (none :: (none :: (none :: (none :: (none :: (none :: (none :: (none :: (none :: (none :: (none :: (none :: (none :: (none :: (none :: (none :: (none :: (none :: (none :: (none :: (none :: (none :: (none :: (none :: []))))))))))))))))))))))))))))))))))))))))))))))))) (List.cons (HO.ro ((27 : Nat)) ((2 : Nat)) (p.N0) (fun j => (List.cons (SV.int (IntKind.u64) (p.F0_0 j)) (List.cons (SV.int (IntKind.u64) (p.F0_1 j)) []))) (p.O0)) (List.cons (HO.row ((27 : Nat)) ((2 : Nat)) (p.N1) (fun j => (List.cons (SV.int (IntKind.u64) (p.F1_0 j)) (List.cons (SV.int (IntKind.u64) (p.F1_1 j)) [])))) (List.cons (HO.row ((27 : Nat)) ((2 : Nat)) (s.N2) (fun j => (List.cons (SV.int (IntKind.u64) (s.F2_0 j)) (List.cons (SV.int (IntKind.u64) (s.F2_1 j)) [])))) []))))) (Tr.need (e24_0_2 p s) (Tr.need (e24_0_3 p s) (Tr.need (e24_0_4 p s) (Tr.need (e24_0_5 p s) (Tr.need (e24_0_6 p s) (Tr.ite (e24_0_7 p s) (Tr.leaf (Rs.on (S24_0.mk (s.n3) ((e24_0_9 p s)) (s.N2) ((fun j => (e24_0_10 p s j))) ((fun j => (e24_0_11 p s j)))))) (Tr.leaf (Rs.on (S24_0.mk ((e24_0_13 p s)) ((e24_0_9 p s)) ((e24_0_13 p s)) ((fun j => (e24_0_14 p s j))) ((fun j => (e24_0_15 p s j)))))))))))))
noncomputable def E24_0 : St th.R → Out th := evCode th Try.prog (auto th Try.prog nice36n [] 20) (autoH [] [] [] [2, 3, 48] : Hints th) (lpAt Try.prog 24 0)
theorem B24_0 : CodeSound th Try.prog (lpAt Try.prog 24 0) E24_0 := evCode_sound (T := th) (P := Try.prog) (tbl := (auto th Try.prog nice36n [] 20)) (auto_sound (nice := nice36n) (us := []) nok36n 20) (autoH [] [] [] [2, 3, 48] : Hints th) _ (LoopsOk_mem (fun _ => rfl) _ fun b hb L hL => by cases hL)
noncomputable def L24_0 : St th.R → Out th := loopL d24_0 ofV24_0 r24_0
theorem h1_24_0 (p : P24_0) (s : S24_0) : bld d24_0.tm (toV24_0 p s) = some (I24_0 p s) := by kernel_rfl
theorem h2_24_0 (l : List (Vl th.R)) (p : P24_0) (s : S24_0) (h : ofV24_0 l = some (p, s)) : l = toV24_0 p s := by
  unfold ofV24_0 at h
  split at h
  · cases h; rfl
  · cases h
theorem h3_24_0 (p : P24_0) (s : S24_0) : cvE d24_0 (E24_0 (I24_0 p s)) = some ((rf24_0 p s).map (Rs.map (toV24_0 p))) := by kernel_rfl
theorem h3g_24_0 (p : P24_0) (s : S24_0) : (rf24_0 p s).get = (r24_0 p s).get := by kernel_rfl
theorem h4_24_0 (p : P24_0) (s s1 : S24_0) : outH d24_0.dirt d24_0.n0 (r24_0 p s) = repH (maskH d24_0.dirt 0 d24_0.n0 (I24_0 p s1).heap) (r24_0 p s) := by kernel_rfl
theorem ls24_0 : CodeSound th Try.prog (.loop (lpAt Try.prog 24 0)) L24_0 := loopL_sound B24_0 d24_0 I24_0 toV24_0 (by kernel_rfl) h1_24_0 h2_24_0
  (fun p s => ⟨(rf24_0 p s).map (Rs.map (toV24_0 p)), h3_24_0 p s, fun h => by
    rw [Tr.map_ok]
    unfold r24_0 at h; unfold rf24_0
    simp only [Tr.ok, n_e24_0_1, n_e24_0_8, n_e24_0_12, true_and, and_true, forall_const, implies_true] at h ⊢
    try exact h, by rw [Tr.map_get, h3g_24_0 p s]⟩) h4_24_0
theorem ok24 : LoopsOk th Try.prog (autoH [(3, L24_0)] [] [] [2, 3, 48] : Hints th) (bodyOf Try.prog 24) := autoH_ok (bs := [lpAt Try.prog 24 0]) (by kernel_rfl) fun b hb L hL => by
  simp only [List.mem_cons, List.not_mem_nil, or_false] at hb
  rcases hb with rfl
  · have e : lookL [(3, L24_0)] (firstReg (lpAt Try.prog 24 0)) = some L24_0 := by kernel_rfl
    rw [e] at hL; cases hL
    exact ls24_0
noncomputable def f24_0 (v : V24) : (Prop) := ∀ (i : Nat), scpL (0:Nat) ((fun (j : Nat) => [SV.int IntKind.u64 (v.F j), SV.int IntKind.u64 (v.G j)]) i) = true
noncomputable def f24_1 (v : V24) : (Prop) := ∀ (i : Nat), i < v.M → (fun (j : Nat) => [SV.int IntKind.u64 (v.F j), SV.int IntKind.u64 (v.G j)]) i = elC (fun (j : Nat) => [SV.int IntKind.u64 (v.F j), SV.int IntKind.u64 (v.G j)]) (0:Nat) [Ck.int IntKind.u64, Ck.int IntKind.u64] i
noncomputable def f24_2 (v : V24) : (Prop) := pre36 (V36.mk v.L v.M v.ob v.F v.G)
noncomputable def f24_3 (v : V24) : (Prop) := (∀ (i : Nat), scpL (0:Nat) ((fun (j : Nat) => [SV.int IntKind.u64 (v.F j), SV.int IntKind.u64 (v.G j)]) i) = true) ∧ ∀ (i : Nat), scpL (0:Nat) ((fun (j : Nat) => [SV.int IntKind.u64 (RSr (sp v.F v.G) v.L j).fst, SV.int IntKind.u64 (RSr (sp v.F v.G) v.L j).snd]) i) = true
noncomputable def f24_4 (v : V24) : (Prop) := (∀ (i : Nat), i < v.M → (fun (j : Nat) => [SV.int IntKind.u64 (v.F j), SV.int IntKind.u64 (v.G j)]) i = elC (fun (j : Nat) => [SV.int IntKind.u64 (v.F j), SV.int IntKind.u64 (v.G j)]) (0:Nat) [Ck.int IntKind.u64, Ck.int IntKind.u64] i) ∧ (∀ (i : Nat), i < v.L → (fun (j : Nat) => [SV.int IntKind.u64 (RSr (sp v.F v.G) v.L j).fst, SV.int IntKind.u64 (RSr (sp v.F v.G) v.L j).snd]) i = elC (fun (j : Nat) => [SV.int IntKind.u64 (RSr (sp v.F v.G) v.L j).fst, SV.int IntKind.u64 (RSr (sp v.F v.G) v.L j).snd]) (0:Nat) [Ck.int IntKind.u64, Ck.int IntKind.u64] i) ∧ ∀ (i : Nat), i < (0:Nat) → (fun (j : Nat) => []) i = elC (fun (j : Nat) => []) (0:Nat) [Ck.int IntKind.u64, Ck.int IntKind.u64] i
noncomputable def f24_5 (v : V24) : (Prop) := LT (r24_0 (P24_0.mk (RS (sp v.F v.G) v.L).length (↑(RS (sp v.F v.G) v.L).length : Int) v.M v.ob v.F v.G v.L (fun (j : Nat) => (RSr (sp v.F v.G) v.L j).fst) fun (j : Nat) => (RSr (sp v.F v.G) v.L j).snd)) (S24_0.mk (0:Nat) (0 : Int) (0:Nat) (colI (fun (j : Nat) => []) (0:Nat)) (colI (fun (j : Nat) => []) (1 : Nat)))
noncomputable def f24z0 (v : V24) : S24_0 := lastS (r24_0 (P24_0.mk (RS (sp v.F v.G) v.L).length (↑(RS (sp v.F v.G) v.L).length : Int) v.M v.ob v.F v.G v.L (fun (j : Nat) => (RSr (sp v.F v.G) v.L j).fst) fun (j : Nat) => (RSr (sp v.F v.G) v.L j).snd)) (S24_0.mk (0:Nat) (0 : Int) (0:Nat) (colI (fun (j : Nat) => []) (0:Nat)) (colI (fun (j : Nat) => []) (1 : Nat)))
noncomputable def f24_6 (v : V24) : (Nat) := (f24z0 v).n3
noncomputable def f24_7 (v : V24) : Nat → (Int) := fun j => (RSr (sp v.F v.G) v.L j).fst
noncomputable def f24_8 (v : V24) : Nat → (Int) := fun j => (RSr (sp v.F v.G) v.L j).snd
noncomputable def f24_9 (v : V24) : (Nat) := (f24z0 v).N2
noncomputable def f24_10 (v : V24) : Nat → (Int) := fun j => (f24z0 v).F2_0 j
noncomputable def f24_11 (v : V24) : Nat → (Int) := fun j => (f24z0 v).F2_1 j
theorem n_f24_0 (v : V24) : f24_0 v := by
  unfold f24_0
  first
    | (intros; rfl)
    | (intro i; rfl)
    | (intro i _; rfl)
    | (intro _ i; rfl)
    | (intro _ i _; rfl)
    | (refine ⟨?_, ?_⟩ <;> intro i <;> rfl)
    | (refine ⟨?_, ?_, ?_⟩ <;> intro i <;> rfl)
    | (refine ⟨?_, ?_⟩ <;> intro i _ <;> rfl)
    | (repeat' apply And.intro) <;> first | (intro i; rfl) | (intro i _; rfl) | (intro i h; exact absurd h (Nat.not_lt_zero i)) | (intro i; exact scpL_rowSet (by rfl) (by rfl)) | (intro i; exact scpL_rowEl (by kernel_rfl) _)
    | (intros; (repeat' apply And.intro) <;> intros <;> first | rfl | (exact absurd (by assumption) (Nat.not_lt_zero _)))
    | omega
    | decide
theorem n_f24_1 (v : V24) : f24_1 v := by
  unfold f24_1
  first
    | (intros; rfl)
    | (intro i; rfl)
    | (intro i _; rfl)
    | (intro _ i; rfl)
    | (intro _ i _; rfl)
    | (refine ⟨?_, ?_⟩ <;> intro i <;> rfl)
    | (refine ⟨?_, ?_, ?_⟩ <;> intro i <;> rfl)
    | (refine ⟨?_, ?_⟩ <;> intro i _ <;> rfl)
    | (repeat' apply And.intro) <;> first | (intro i; rfl) | (intro i _; rfl) | (intro i h; exact absurd h (Nat.not_lt_zero i)) | (intro i; exact scpL_rowSet (by rfl) (by rfl)) | (intro i; exact scpL_rowEl (by kernel_rfl) _)
    | (intros; (repeat' apply And.intro) <;> intros <;> first | rfl | (exact absurd (by assumption) (Nat.not_lt_zero _)))
    | omega
    | decide
theorem n_f24_3 (v : V24) : f24_3 v := by
  unfold f24_3
  first
    | (intros; rfl)
    | (intro i; rfl)
    | (intro i _; rfl)
    | (intro _ i; rfl)
    | (intro _ i _; rfl)
    | (refine ⟨?_, ?_⟩ <;> intro i <;> rfl)
    | (refine ⟨?_, ?_, ?_⟩ <;> intro i <;> rfl)
    | (refine ⟨?_, ?_⟩ <;> intro i _ <;> rfl)
    | (repeat' apply And.intro) <;> first | (intro i; rfl) | (intro i _; rfl) | (intro i h; exact absurd h (Nat.not_lt_zero i)) | (intro i; exact scpL_rowSet (by rfl) (by rfl)) | (intro i; exact scpL_rowEl (by kernel_rfl) _)
    | (intros; (repeat' apply And.intro) <;> intros <;> first | rfl | (exact absurd (by assumption) (Nat.not_lt_zero _)))
    | omega
    | decide
theorem n_f24_4 (v : V24) : f24_4 v := by
  unfold f24_4
  first
    | (intros; rfl)
    | (intro i; rfl)
    | (intro i _; rfl)
    | (intro _ i; rfl)
    | (intro _ i _; rfl)
    | (refine ⟨?_, ?_⟩ <;> intro i <;> rfl)
    | (refine ⟨?_, ?_, ?_⟩ <;> intro i <;> rfl)
    | (refine ⟨?_, ?_⟩ <;> intro i _ <;> rfl)
    | (repeat' apply And.intro) <;> first | (intro i; rfl) | (intro i _; rfl) | (intro i h; exact absurd h (Nat.not_lt_zero i)) | (intro i; exact scpL_rowSet (by rfl) (by rfl)) | (intro i; exact scpL_rowEl (by kernel_rfl) _)
    | (intros; (repeat' apply And.intro) <;> intros <;> first | rfl | (exact absurd (by assumption) (Nat.not_lt_zero _)))
    | omega
    | decide
noncomputable def ff24 (v : V24) : Tr (Fin th.R) := (Tr.need (f24_0 v) (Tr.need (f24_1 v) (Tr.need (f24_2 v) (Tr.need (f24_3 v) (Tr.need (f24_4 v) (Tr.need (f24_5 v) (Tr.leaf (Prod.mk (SV.slc ((2 : Nat)) ((2 : Nat)) ((0:Nat)) (f24_6 v)) (Prod.mk (List.cons (HO.ro ((27 : Nat)) ((2 : Nat)) (v.M) (fun j => (List.cons (SV.int (IntKind.u64) (v.F j)) (List.cons (SV.int (IntKind.u64) (v.G j)) []))) (v.ob)) (List.cons (HO.row ((27 : Nat)) ((2 : Nat)) (v.L) (fun j => (List.cons (SV.int (IntKind.u64) (f24_7 v j)) (List.cons (SV.int (IntKind.u64) (f24_8 v j)) [])))) (List.cons (HO.row ((27 : Nat)) ((2 : Nat)) (f24_9 v) (fun j => (List.cons (SV.int (IntKind.u64) (f24_10 v j)) (List.cons (SV.int (IntKind.u64) (f24_11 v j)) [])))) []))) [])))))))))
noncomputable def f24 (v : V24) : Tr (Fin th.R) := (Tr.need (f24_2 v) (Tr.need (f24_5 v) (Tr.leaf (Prod.mk (SV.slc ((2 : Nat)) ((2 : Nat)) ((0:Nat)) (f24_6 v)) (Prod.mk (List.cons (HO.ro ((27 : Nat)) ((2 : Nat)) (v.M) (fun j => (List.cons (SV.int (IntKind.u64) (v.F j)) (List.cons (SV.int (IntKind.u64) (v.G j)) []))) (v.ob)) (List.cons (HO.row ((27 : Nat)) ((2 : Nat)) (v.L) (fun j => (List.cons (SV.int (IntKind.u64) (f24_7 v j)) (List.cons (SV.int (IntKind.u64) (f24_8 v j)) [])))) (List.cons (HO.row ((27 : Nat)) ((2 : Nat)) (f24_9 v) (fun j => (List.cons (SV.int (IntKind.u64) (f24_10 v j)) (List.cons (SV.int (IntKind.u64) (f24_11 v j)) [])))) []))) ([]))))))
noncomputable def C24 : CF th.R := fnC d24 ofV24 (f24 )
theorem q24 (v : V24) : (evFn th Try.prog (auto th Try.prog nice36n [] 20) (autoH [(3, L24_0)] [] [] [2, 3, 48] : Hints th) 24) (A24 v) (H24 v) = some (ff24 v) := by kernel_rfl
theorem qg24 (v : V24) : ((ff24 v).map (setD [])).get = (f24 v).get := by kernel_rfl
theorem qd24 (v : V24) : allD 1 [] (ff24 v) = true := by kernel_rfl
theorem s24 : Sound Try.prog th 24 (C24 ) := fnC_sound (evFn_sound' (T := th) (P := Try.prog) (tbl := (auto th Try.prog nice36n [] 20)) (auto_sound (nice := nice36n) (us := []) nok36n 20) (H := (autoH [(3, L24_0)] [] [] [2, 3, 48] : Hints th)) (k := 24) (fnLoops ok24)) d24 A24 H24 toV24 (by kernel_rfl) (fun v => by kernel_rfl)
  (fun l v h => by
    unfold ofV24 at h
    split at h
    · cases h; rfl
    · cases h)
  [] (fun v => ⟨ff24 v, q24 v, fun h => by
    unfold f24 at h; unfold ff24
    simp only [Tr.ok, n_f24_0, n_f24_1, n_f24_3, n_f24_4, true_and, and_true, forall_const, implies_true] at h ⊢
    try exact h, qg24 v, qd24 v⟩)
theorem qdd24 (v : V24) : (f24 v).get.2.2 = [] := by
  rw [← qg24, Tr.map_get]; rfl
end Go.Sx.S

