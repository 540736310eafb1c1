/- Contracts of the functions of this seat, each by the executor and the kernel; part 4. Their conditions stand in each. -/
import Derived.Test.YtdeaddkppjdacaaC3
set_option linter.unusedVariables false
set_option linter.unusedSimpArgs false
namespace Go.Sx.S
open Go Go.Sx Go.Proofs Go.RowKit
set_option maxRecDepth 100000
structure V26 where
  L : Nat
  M : Nat
  ob : Obj
  F : Nat → Int
  G : Nat → Int
def A26 (v : V26) : List SV := [.slc 0 2 0 v.L]
def H26 (v : V26) : List (HO th.R) := [.ro 27 2 v.M (fun j => [.int .u64 (v.F j), .int .u64 (v.G j)]) v.ob]
def toV26 (v : V26) : List (Vl th.R) := [.n v.L, .n v.M, .o v.ob, .c v.F, .c v.G]
def ofV26 : List (Vl th.R) → Option V26
  | [.n L, .n M, .o ob, .c F, .c G] => some ⟨L, M, ob, F, G⟩
  | _ => none
def d26 : Ft := ⟨[.slc0 0 2], [.roc 27 [.int .u64, .int .u64]]⟩
structure P26_0 where
  n8 : Nat
  x9 : Int
  N0 : Nat
  O0 : Obj
  F0_0 : Nat → Int
  F0_1 : Nat → Int
  N1 : Nat
  F1_0 : Nat → Int
  F1_1 : Nat → Int
structure S26_0 where
  x3 : Int
  x4 : Int
  x10 : Int
instance : Inhabited S26_0 := ⟨⟨0, 0, 0⟩⟩
def I26_0 (p : P26_0) (s : S26_0) : St th.R := ⟨[none, none, none, some (.int .u64 s.x3), some (.int .u64 s.x4), none, none, none, some (.slc 1 2 0 p.n8), some (.int .i64 p.x9), some (.int .i64 s.x10), none, none, none, none, none, none, none, none, none, none, none, none, none, none, none, none, none, none, none, none], [.ro 27 2 p.N0 (fun j => [.int .u64 (p.F0_0 j), .int .u64 (p.F0_1 j)]) p.O0, .row 27 2 p.N1 (fun j => [.int .u64 (p.F1_0 j), .int .u64 (p.F1_1 j)])], [], []⟩
def d26_0 : Lp := ⟨⟨31, [(3, .int .u64), (4, .int .u64), (8, .slc0 1 2), (9, .int .i64), (10, .int .i64)], [.roc 27 [.int .u64, .int .u64], .rowc 27 [.int .u64, .int .u64]]⟩, [], 2, [], [3], []⟩
def toV26_0 (p : P26_0) (s : S26_0) : List (Vl th.R) := [.i s.x3, .i s.x4, .n p.n8, .i p.x9, .i s.x10, .n p.N0, .o p.O0, .c p.F0_0, .c p.F0_1, .n p.N1, .c p.F1_0, .c p.F1_1]
def ofV26_0 : List (Vl th.R) → Option (P26_0 × S26_0)
  | [.i x3, .i x4, .n n8, .i x9, .i x10, .n N0, .o O0, .c F0_0, .c F0_1, .n N1, .c F1_0, .c F1_1] => some (⟨n8, x9, N0, O0, F0_0, F0_1, N1, F1_0, F1_1⟩, ⟨x3, x4, x10⟩)
  | _ => none
noncomputable def e26_0_0 (p : P26_0) (s : S26_0) : (Bool) := cnd (decide (s.x10 < p.x9)) false true
noncomputable def e26_0_1 (p : P26_0) (s : S26_0) : (Prop) := (∀ (i : Nat), scpL (0:Nat) ((fun (j : Nat) => [SV.int IntKind.u64 (p.F0_0 j), SV.int IntKind.u64 (p.F0_1 j)]) i) = true) ∧ ∀ (i : Nat), scpL (0:Nat) ((fun (j : Nat) => [SV.int IntKind.u64 (p.F1_0 j), SV.int IntKind.u64 (p.F1_1 j)]) i) = true
noncomputable def e26_0_2 (p : P26_0) (s : S26_0) : (Prop) := (0 : Int) ≤ s.x10 ∧ s.x10 < (↑p.n8 : Int)
noncomputable def e26_0_3 (p : P26_0) (s : S26_0) : (Prop) := (0:Nat) + s.x10.toNat < p.N1
noncomputable def e26_0_4 (p : P26_0) (s : S26_0) : (Prop) := ((∀ (i : Nat), scpL (0:Nat) ((fun (j : Nat) => [SV.int IntKind.u64 (p.F0_0 j), SV.int IntKind.u64 (p.F0_1 j)]) i) = true) ∧ ∀ (i : Nat), scpL (0:Nat) ((fun (j : Nat) => [SV.int IntKind.u64 (p.F1_0 j), SV.int IntKind.u64 (p.F1_1 j)]) i) = true) ∧ (∀ (i : Nat), i < p.N0 → (fun (j : Nat) => [SV.int IntKind.u64 (p.F0_0 j), SV.int IntKind.u64 (p.F0_1 j)]) i = elC (fun (j : Nat) => [SV.int IntKind.u64 (p.F0_0 j), SV.int IntKind.u64 (p.F0_1 j)]) (0:Nat) [Ck.int IntKind.u64, Ck.int IntKind.u64] i) ∧ ∀ (i : Nat), i < p.N1 → (fun (j : Nat) => [SV.int IntKind.u64 (p.F1_0 j), SV.int IntKind.u64 (p.F1_1 j)]) i = elC (fun (j : Nat) => [SV.int IntKind.u64 (p.F1_0 j), SV.int IntKind.u64 (p.F1_1 j)]) (0:Nat) [Ck.int IntKind.u64, Ck.int IntKind.u64] i
noncomputable def e26_0_5 (p : P26_0) (s : S26_0) : (Int) := cnd (decide (p.F1_1 ((0:Nat) + s.x10.toNat) > s.x4)) (IntKind.u64.wrap (s.x3 + IntKind.u64.wrap (p.F1_1 ((0:Nat) + s.x10.toNat) - if s.x4 > p.F1_0 ((0:Nat) + s.x10.toNat) then s.x4 else p.F1_0 ((0:Nat) + s.x10.toNat)))) s.x3
noncomputable def e26_0_6 (p : P26_0) (s : S26_0) : (Int) := cnd (decide (p.F1_1 ((0:Nat) + s.x10.toNat) > s.x4)) (p.F1_1 ((0:Nat) + s.x10.toNat)) s.x4
noncomputable def e26_0_7 (p : P26_0) (s : S26_0) : (Int) := IntKind.i64.wrap (s.x10 + (1 : Int))
theorem n_e26_0_1 (p : P26_0) (s : S26_0) : e26_0_1 p s := by
  unfold e26_0_1
  first
    | (intros; rfl)
    | (intro i; rfl)
    | (intro i _; rfl)
    | (intro _ i; rfl)
    | (intro _ i _; rfl)
    | (refine ⟨?_, ?_⟩ <;> intro i <;> rfl)
    | (refine ⟨?_, ?_, ?_⟩ <;> intro i <;> rfl)
    | (refine ⟨?_, ?_⟩ <;> intro i _ <;> rfl)
    | (repeat' apply And.intro) <;> first | (intro i; rfl) | (intro i _; rfl) | (intro i h; exact absurd h (Nat.not_lt_zero i)) | (intro i; exact scpL_rowSet (by rfl) (by rfl)) | (intro i; exact scpL_rowEl (by kernel_rfl) _)
    | (intros; (repeat' apply And.intro) <;> intros <;> first | rfl | (exact absurd (by assumption) (Nat.not_lt_zero _)))
    | omega
    | decide
theorem n_e26_0_4 (p : P26_0) (s : S26_0) : e26_0_4 p s := by
  unfold e26_0_4
  first
    | (intros; rfl)
    | (intro i; rfl)
    | (intro i _; rfl)
    | (intro _ i; rfl)
    | (intro _ i _; rfl)
    | (refine ⟨?_, ?_⟩ <;> intro i <;> rfl)
    | (refine ⟨?_, ?_, ?_⟩ <;> intro i <;> rfl)
    | (refine ⟨?_, ?_⟩ <;> intro i _ <;> rfl)
    | (repeat' apply And.intro) <;> first | (intro i; rfl) | (intro i _; rfl) | (intro i h; exact absurd h (Nat.not_lt_zero i)) | (intro i; exact scpL_rowSet (by rfl) (by rfl)) | (intro i; exact scpL_rowEl (by kernel_rfl) _)
    | (intros; (repeat' apply And.intro) <;> intros <;> first | rfl | (exact absurd (by assumption) (Nat.not_lt_zero _)))
    | omega
    | decide
noncomputable def rf26_0 (p : P26_0) (s : S26_0) : Tr (Rs th.R S26_0) := (Tr.ite (e26_0_0 p s) (Tr.need (e26_0_1 p s) (Tr.leaf (Rs.out (Ex.exit ((0:Nat))) (none :: (none :: (none :: (List.cons (Option.some (SV.int (IntKind.u64) (s.x3))) (none :: (none :: (none :: (none :: (none :: (none :: (none :: (none :: (none :: (none :: (none :: (none :: (none :: (none :: (none :: (none :: (none :: (none :: (none :: (none :: (none :: (none :: (none :: (none :: (none :: (none :: (none :: []))))))))))))))))))))))))))))))) (List.cons (HO.ro ((27 : Nat)) ((2 : Nat)) (p.N0) (fun j => (List.cons (SV.int (IntKind.u64) (p.F0_0 j)) (List.cons (SV.int (IntKind.u64) (p.F0_1 j)) []))) (p.O0)) (List.cons (HO.row ((27 : Nat)) ((2 : Nat)) (p.N1) (fun j => (List.cons (SV.int (IntKind.u64) (p.F1_0 j)) (List.cons (SV.int (IntKind.u64) (p.F1_1 j)) [])))) []))))) (Tr.need (e26_0_2 p s) (Tr.need (e26_0_3 p s) (Tr.need (e26_0_4 p s) (Tr.leaf (Rs.on (S26_0.mk ((e26_0_5 p s)) ((e26_0_6 p s)) ((e26_0_7 p s)))))))))
noncomputable def r26_0 (p : P26_0) (s : S26_0) : Tr (Rs th.R S26_0) := (Tr.ite (e26_0_0 p s) (Tr.leaf (Rs.out (Ex.exit ((0:Nat))) (none :: (none :: (none :: (List.cons (Option.some (SV.int (IntKind.u64) (s.x3))) (none :: (none :: (none :: (none :: (none :: (none :: (none :: (none :: (none :: (none :: (none :: (none :: (none :: (none :: (none :: (none :: (none :: (none :: (none :: (none :: (none :: (none :: (none :: (none :: (none :: (none :: (none :: []))))))))))))))))))))))))))))))) (List.cons (HO.ro ((27 : Nat)) ((2 : Nat)) (p.N0) (fun j => (List.cons (SV.int (IntKind.u64) (p.F0_0 j)) (List.cons (SV.int (IntKind.u64) (p.F0_1 j)) []))) (p.O0)) (List.cons (HO.row ((27 : Nat)) ((2 : Nat)) (p.N1) (fun j => (List.cons (SV.int (IntKind.u64) (p.F1_0 j)) (List.cons (SV.int (IntKind.u64) (p.F1_1 j)) [])))) [])))) (Tr.need (e26_0_2 p s) (Tr.need (e26_0_3 p s) (Tr.leaf (Rs.on (S26_0.mk ((e26_0_5 p s)) ((e26_0_6 p s)) ((e26_0_7 p s))))))))
noncomputable def E26_0 : St th.R → Out th := evCode th Try.prog (auto th Try.prog nice36n [] 20) (autoH [] [] [] [] : Hints th) (lpAt Try.prog 26 0)
theorem B26_0 : CodeSound th Try.prog (lpAt Try.prog 26 0) E26_0 := evCode_sound (T := th) (P := Try.prog) (tbl := (auto th Try.prog nice36n [] 20)) (auto_sound (nice := nice36n) (us := []) nok36n 20) (autoH [] [] [] [] : Hints th) _ (LoopsOk_mem (fun _ => rfl) _ fun b hb L hL => by cases hL)
noncomputable def L26_0 : St th.R → Out th := loopL d26_0 ofV26_0 r26_0
theorem h1_26_0 (p : P26_0) (s : S26_0) : bld d26_0.tm (toV26_0 p s) = some (I26_0 p s) := by kernel_rfl
theorem h2_26_0 (l : List (Vl th.R)) (p : P26_0) (s : S26_0) (h : ofV26_0 l = some (p, s)) : l = toV26_0 p s := by
  unfold ofV26_0 at h
  split at h
  · cases h; rfl
  · cases h
theorem h3_26_0 (p : P26_0) (s : S26_0) : cvE d26_0 (E26_0 (I26_0 p s)) = some ((rf26_0 p s).map (Rs.map (toV26_0 p))) := by kernel_rfl
theorem h3g_26_0 (p : P26_0) (s : S26_0) : (rf26_0 p s).get = (r26_0 p s).get := by kernel_rfl
theorem h4_26_0 (p : P26_0) (s s1 : S26_0) : outH d26_0.dirt d26_0.n0 (r26_0 p s) = repH (maskH d26_0.dirt 0 d26_0.n0 (I26_0 p s1).heap) (r26_0 p s) := by kernel_rfl
theorem ls26_0 : CodeSound th Try.prog (.loop (lpAt Try.prog 26 0)) L26_0 := loopL_sound B26_0 d26_0 I26_0 toV26_0 (by kernel_rfl) h1_26_0 h2_26_0
  (fun p s => ⟨(rf26_0 p s).map (Rs.map (toV26_0 p)), h3_26_0 p s, fun h => by
    rw [Tr.map_ok]
    unfold r26_0 at h; unfold rf26_0
    simp only [Tr.ok, n_e26_0_1, n_e26_0_4, true_and, and_true, forall_const, implies_true] at h ⊢
    try exact h, by rw [Tr.map_get, h3g_26_0 p s]⟩) h4_26_0
theorem ok26 : LoopsOk th Try.prog (autoH [(3, L26_0)] [] [] [] : Hints th) (bodyOf Try.prog 26) := autoH_ok (bs := [lpAt Try.prog 26 0]) (by kernel_rfl) fun b hb L hL => by
  simp only [List.mem_cons, List.not_mem_nil, or_false] at hb
  rcases hb with rfl
  · have e : lookL [(3, L26_0)] (firstReg (lpAt Try.prog 26 0)) = some L26_0 := by kernel_rfl
    rw [e] at hL; cases hL
    exact ls26_0
noncomputable def f26_0 (v : V26) : (Prop) := ∀ (i : Nat), scpL (0:Nat) ((fun (j : Nat) => [SV.int IntKind.u64 (v.F j), SV.int IntKind.u64 (v.G j)]) i) = true
noncomputable def f26_1 (v : V26) : (Prop) := ∀ (i : Nat), i < v.M → (fun (j : Nat) => [SV.int IntKind.u64 (v.F j), SV.int IntKind.u64 (v.G j)]) i = elC (fun (j : Nat) => [SV.int IntKind.u64 (v.F j), SV.int IntKind.u64 (v.G j)]) (0:Nat) [Ck.int IntKind.u64, Ck.int IntKind.u64] i
noncomputable def f26_2 (v : V26) : (Prop) := pre36 (V36.mk v.L v.M v.ob v.F v.G)
noncomputable def f26_3 (v : V26) : (Prop) := (∀ (i : Nat), scpL (0:Nat) ((fun (j : Nat) => [SV.int IntKind.u64 (v.F j), SV.int IntKind.u64 (v.G j)]) i) = true) ∧ ∀ (i : Nat), scpL (0:Nat) ((fun (j : Nat) => [SV.int IntKind.u64 (RSr (sp v.F v.G) v.L j).fst, SV.int IntKind.u64 (RSr (sp v.F v.G) v.L j).snd]) i) = true
noncomputable def f26_4 (v : V26) : (Prop) := (∀ (i : Nat), i < v.M → (fun (j : Nat) => [SV.int IntKind.u64 (v.F j), SV.int IntKind.u64 (v.G j)]) i = elC (fun (j : Nat) => [SV.int IntKind.u64 (v.F j), SV.int IntKind.u64 (v.G j)]) (0:Nat) [Ck.int IntKind.u64, Ck.int IntKind.u64] i) ∧ ∀ (i : Nat), i < v.L → (fun (j : Nat) => [SV.int IntKind.u64 (RSr (sp v.F v.G) v.L j).fst, SV.int IntKind.u64 (RSr (sp v.F v.G) v.L j).snd]) i = elC (fun (j : Nat) => [SV.int IntKind.u64 (RSr (sp v.F v.G) v.L j).fst, SV.int IntKind.u64 (RSr (sp v.F v.G) v.L j).snd]) (0:Nat) [Ck.int IntKind.u64, Ck.int IntKind.u64] i
noncomputable def f26_5 (v : V26) : (Prop) := LT (r26_0 (P26_0.mk (RS (sp v.F v.G) v.L).length (↑(RS (sp v.F v.G) v.L).length : Int) v.M v.ob v.F v.G v.L (fun (j : Nat) => (RSr (sp v.F v.G) v.L j).fst) fun (j : Nat) => (RSr (sp v.F v.G) v.L j).snd)) (S26_0.mk (0 : Int) (0 : Int) (0 : Int))
noncomputable def f26z0 (v : V26) : S26_0 := lastS (r26_0 (P26_0.mk (RS (sp v.F v.G) v.L).length (↑(RS (sp v.F v.G) v.L).length : Int) v.M v.ob v.F v.G v.L (fun (j : Nat) => (RSr (sp v.F v.G) v.L j).fst) fun (j : Nat) => (RSr (sp v.F v.G) v.L j).snd)) (S26_0.mk (0 : Int) (0 : Int) (0 : Int))
noncomputable def f26_6 (v : V26) : (Int) := (f26z0 v).x3
theorem n_f26_0 (v : V26) : f26_0 v := by
  unfold f26_0
  first
    | (intros; rfl)
    | (intro i; rfl)
    | (intro i _; rfl)
    | (intro _ i; rfl)
    | (intro _ i _; rfl)
    | (refine ⟨?_, ?_⟩ <;> intro i <;> rfl)
    | (refine ⟨?_, ?_, ?_⟩ <;> intro i <;> rfl)
    | (refine ⟨?_, ?_⟩ <;> intro i _ <;> rfl)
    | (repeat' apply And.intro) <;> first | (intro i; rfl) | (intro i _; rfl) | (intro i h; exact absurd h (Nat.not_lt_zero i)) | (intro i; exact scpL_rowSet (by rfl) (by rfl)) | (intro i; exact scpL_rowEl (by kernel_rfl) _)
    | (intros; (repeat' apply And.intro) <;> intros <;> first | rfl | (exact absurd (by assumption) (Nat.not_lt_zero _)))
    | omega
    | decide
theorem n_f26_1 (v : V26) : f26_1 v := by
  unfold f26_1
  first
    | (intros; rfl)
    | (intro i; rfl)
    | (intro i _; rfl)
    | (intro _ i; rfl)
    | (intro _ i _; rfl)
    | (refine ⟨?_, ?_⟩ <;> intro i <;> rfl)
    | (refine ⟨?_, ?_, ?_⟩ <;> intro i <;> rfl)
    | (refine ⟨?_, ?_⟩ <;> intro i _ <;> rfl)
    | (repeat' apply And.intro) <;> first | (intro i; rfl) | (intro i _; rfl) | (intro i h; exact absurd h (Nat.not_lt_zero i)) | (intro i; exact scpL_rowSet (by rfl) (by rfl)) | (intro i; exact scpL_rowEl (by kernel_rfl) _)
    | (intros; (repeat' apply And.intro) <;> intros <;> first | rfl | (exact absurd (by assumption) (Nat.not_lt_zero _)))
    | omega
    | decide
theorem n_f26_3 (v : V26) : f26_3 v := by
  unfold f26_3
  first
    | (intros; rfl)
    | (intro i; rfl)
    | (intro i _; rfl)
    | (intro _ i; rfl)
    | (intro _ i _; rfl)
    | (refine ⟨?_, ?_⟩ <;> intro i <;> rfl)
    | (refine ⟨?_, ?_, ?_⟩ <;> intro i <;> rfl)
    | (refine ⟨?_, ?_⟩ <;> intro i _ <;> rfl)
    | (repeat' apply And.intro) <;> first | (intro i; rfl) | (intro i _; rfl) | (intro i h; exact absurd h (Nat.not_lt_zero i)) | (intro i; exact scpL_rowSet (by rfl) (by rfl)) | (intro i; exact scpL_rowEl (by kernel_rfl) _)
    | (intros; (repeat' apply And.intro) <;> intros <;> first | rfl | (exact absurd (by assumption) (Nat.not_lt_zero _)))
    | omega
    | decide
theorem n_f26_4 (v : V26) : f26_4 v := by
  unfold f26_4
  first
    | (intros; rfl)
    | (intro i; rfl)
    | (intro i _; rfl)
    | (intro _ i; rfl)
    | (intro _ i _; rfl)
    | (refine ⟨?_, ?_⟩ <;> intro i <;> rfl)
    | (refine ⟨?_, ?_, ?_⟩ <;> intro i <;> rfl)
    | (refine ⟨?_, ?_⟩ <;> intro i _ <;> rfl)
    | (repeat' apply And.intro) <;> first | (intro i; rfl) | (intro i _; rfl) | (intro i h; exact absurd h (Nat.not_lt_zero i)) | (intro i; exact scpL_rowSet (by rfl) (by rfl)) | (intro i; exact scpL_rowEl (by kernel_rfl) _)
    | (intros; (repeat' apply And.intro) <;> intros <;> first | rfl | (exact absurd (by assumption) (Nat.not_lt_zero _)))
    | omega
    | decide
noncomputable def ff26 (v : V26) : Tr (Fin th.R) := (Tr.need (f26_0 v) (Tr.need (f26_1 v) (Tr.need (f26_2 v) (Tr.need (f26_3 v) (Tr.need (f26_4 v) (Tr.need (f26_5 v) (Tr.leaf (Prod.mk (SV.int (IntKind.u64) (f26_6 v)) (Prod.mk (List.cons (HO.ro ((27 : Nat)) ((2 : Nat)) (v.M) (fun j => (List.cons (SV.int (IntKind.u64) (v.F j)) (List.cons (SV.int (IntKind.u64) (v.G j)) []))) (v.ob)) []) [])))))))))
noncomputable def f26 (v : V26) : Tr (Fin th.R) := (Tr.need (f26_2 v) (Tr.need (f26_5 v) (Tr.leaf (Prod.mk (SV.int (IntKind.u64) (f26_6 v)) (Prod.mk (List.cons (HO.ro ((27 : Nat)) ((2 : Nat)) (v.M) (fun j => (List.cons (SV.int (IntKind.u64) (v.F j)) (List.cons (SV.int (IntKind.u64) (v.G j)) []))) (v.ob)) []) ([]))))))
noncomputable def C26 : CF th.R := fnC d26 ofV26 (f26 )
theorem q26 (v : V26) : (evFn th Try.prog (auto th Try.prog nice36n [] 20) (autoH [(3, L26_0)] [] [] [] : Hints th) 26) (A26 v) (H26 v) = some (ff26 v) := by kernel_rfl
theorem qg26 (v : V26) : ((ff26 v).map (setD [])).get = (f26 v).get := by kernel_rfl
theorem qd26 (v : V26) : allD 1 [] (ff26 v) = true := by kernel_rfl
theorem s26 : Sound Try.prog th 26 (C26 ) := fnC_sound (evFn_sound' (T := th) (P := Try.prog) (tbl := (auto th Try.prog nice36n [] 20)) (auto_sound (nice := nice36n) (us := []) nok36n 20) (H := (autoH [(3, L26_0)] [] [] [] : Hints th)) (k := 26) (fnLoops ok26)) d26 A26 H26 toV26 (by kernel_rfl) (fun v => by kernel_rfl)
  (fun l v h => by
    unfold ofV26 at h
    split at h
    · cases h; rfl
    · cases h)
  [] (fun v => ⟨ff26 v, q26 v, fun h => by
    unfold f26 at h; unfold ff26
    simp only [Tr.ok, n_f26_0, n_f26_1, n_f26_3, n_f26_4, true_and, and_true, forall_const, implies_true] at h ⊢
    try exact h, qg26 v, qd26 v⟩)
theorem qdd26 (v : V26) : (f26 v).get.2.2 = [] := by
  rw [← qg26, Tr.map_get]; rfl
end Go.Sx.S

section
namespace Go.Sx.So
/-- One more span of a union. -/
def ust (u : List Sp) (x : Sp) : List Sp := match u.getLast? with
  | some w => if x.1 ≤ w.2 then u.dropLast ++ [(w.1, max w.2 x.2)] else u ++ [x]
  | none => [x]
def un (l : List Sp) : List Sp := l.foldl ust []
theorem ust_nil (x : Sp) : ust [] x = [x] := rfl
theorem ust_snoc (v : List Sp) (w x : Sp) : ust (v ++ [w]) x = if x.1 ≤ w.2 then v ++ [(w.1, max w.2 x.2)] else v ++ [w] ++ [x] := by simp [ust]
theorem un_snoc (l : List Sp) (x : Sp) : un (l ++ [x]) = ust (un l) x := by simp [un, List.foldl_append]
/-- The total so far, and up to where. -/
def tst (s : Int × Int) (x : Sp) : Int × Int := if x.2 > s.2 then (s.1 + (x.2 - max x.1 s.2), x.2) else s
def tot (l : List Sp) : Int × Int := l.foldl tst (0, 0)
theorem tot_snoc (l : List Sp) (x : Sp) : tot (l ++ [x]) = tst (tot l) x := by simp [tot, List.foldl_append]
/-- Is an address in one of some? -/
def Hs (l : List Sp) (a : Int) : Prop := ∃ x, x ∈ l ∧ x.1 ≤ a ∧ a < x.2
theorem Hs_snoc {l : List Sp} {x : Sp} {a : Int} : Hs (l ++ [x]) a ↔ Hs l a ∨ (x.1 ≤ a ∧ a < x.2) := by
  unfold Hs
  constructor
  · rintro ⟨y, hy, h⟩
    rcases List.mem_append.1 hy with hy | hy
    · exact .inl ⟨y, hy, h⟩
    · cases List.mem_singleton.1 hy; exact .inr h
  · rintro (⟨y, hy, h⟩ | h)
    · exact ⟨y, List.mem_append_left _ hy, h⟩
    · exact ⟨x, List.mem_append_right _ (List.mem_singleton.2 rfl), h⟩
theorem Hs_nil {a : Int} : ¬ Hs [] a := fun ⟨_, h, _⟩ => by cases h
instance (l : List Sp) (a : Int) : Decidable (Hs l a) := inferInstanceAs (Decidable (∃ x, x ∈ l ∧ _))
theorem snoc_cases {α : Type} (u : List α) : u = [] ∨ ∃ v w, u = v ++ [w] := by
  by_cases h : u = []
  · exact .inl h
  · exact .inr ⟨u.dropLast, u.getLast h, (List.dropLast_concat_getLast h).symm⟩
structure UI (l u : List Sp) : Prop where
  right : ∀ x, x ∈ u → x.1 < x.2
  rise : u.Pairwise fun x y => x.2 < y.1
  cov : ∀ a, Hs u a ↔ Hs l a
  ins : ∀ s, s ∈ l → ∃ x, x ∈ u ∧ inn s x
  low : ∀ x, x ∈ u → ∃ s, s ∈ l ∧ s.1 = x.1
  same : tot u = tot l
  top : ∀ v w, u = v ++ [w] → (tot v).2 ≤ w.1 ∧ (tot u).2 = w.2
  nn : u = [] → l = []
  high : ∀ x, x ∈ u → ∃ s, s ∈ l ∧ s.2 = x.2
  len : u.length ≤ l.length
theorem UI.nil : UI [] [] := ⟨(fun _ h => by cases h), List.Pairwise.nil, (fun _ => Iff.rfl), (fun _ h => by cases h), (fun _ h => by cases h), rfl, (fun v w h => by simp at h), (fun _ => rfl), (fun _ h => by cases h), Nat.le_refl _⟩
theorem tst_far {s : Int × Int} {w : Sp} (h : s.2 ≤ w.1) (hw : w.1 < w.2) : tst s w = (s.1 + (w.2 - w.1), w.2) := by
  unfold tst
  rw [if_pos (by omega), Int.max_eq_left h]
theorem snoc_inj {v v' : List Sp} {w w' : Sp} (h : v ++ [w] = v' ++ [w']) : v = v' ∧ w = w' := by
  have := List.append_inj' h rfl
  exact ⟨this.1, by simpa using this.2⟩
theorem UI.step {l u : List Sp} (h : UI l u) {x : Sp} (hx : x.1 < x.2) (h0 : 0 ≤ x.1) (hl : ∀ s, s ∈ l → s.1 ≤ x.1) : UI (l ++ [x]) (ust u x) := by
  rcases snoc_cases u with rfl | ⟨v, w, rfl⟩
  · rw [ust_nil]
    obtain rfl := h.nn rfl
    refine ⟨(fun y hy => by cases List.mem_singleton.1 hy; exact hx), List.pairwise_singleton _ _, (fun a => Iff.rfl), fun s hs => ⟨x, List.mem_singleton.2 rfl, ?_⟩, fun y hy => ⟨y, hy, rfl⟩, rfl, ?_, (fun e => by cases e), (fun y hy => ⟨y, hy, rfl⟩), Nat.le_refl _⟩
    · cases List.mem_singleton.1 hs
      exact ⟨hx, hx, Int.le_refl _, Int.le_refl _⟩
    · intro v w e
      obtain ⟨rfl, rfl⟩ := snoc_inj (v := []) e
      exact ⟨h0, by rw [show tot [x] = tst (0, 0) x from rfl, tst_far h0 hx]⟩
  · have hw := h.right w (by simp)
    have hlen : v.length + 1 ≤ l.length := by have := h.len; simpa using this
    have hlow : w.1 ≤ x.1 := by
      obtain ⟨s, hs, e⟩ := h.low w (by simp)
      rw [← e]; exact hl s hs
    have hr := List.pairwise_append.1 h.rise
    obtain ⟨t1, t2⟩ := h.top v w rfl
    have tw : tot (v ++ [w]) = ((tot v).1 + (w.2 - w.1), w.2) := by rw [tot_snoc, tst_far t1 hw]
    rw [ust_snoc]
    split
    · rename_i hc
      have hw' : w.1 < max w.2 x.2 := by omega
      have t3 : tot (v ++ [(w.1, max w.2 x.2)]) = ((tot v).1 + (max w.2 x.2 - w.1), max w.2 x.2) := by rw [tot_snoc]; exact tst_far t1 hw'
      refine ⟨?_, ?_, ?_, ?_, ?_, ?_, ?_, (fun e => by simp at e), ?_, by simp; omega⟩
      · intro y hy
        rcases List.mem_append.1 hy with hy | hy
        · exact h.right y (by simp [hy])
        · cases List.mem_singleton.1 hy; exact hw'
      · refine List.pairwise_append.2 ⟨hr.1, List.pairwise_singleton _ _, fun a ha b hb => ?_⟩
        cases List.mem_singleton.1 hb
        exact hr.2.2 a ha w (by simp)
      · intro a
        rw [Hs_snoc, Hs_snoc, ← h.cov a, Hs_snoc]
        show _ ∨ (w.1 ≤ a ∧ a < max w.2 x.2) ↔ _
        constructor
        · rintro (q | q)
          · exact .inl (.inl q)
          · by_cases q2 : a < w.2
            · exact .inl (.inr ⟨q.1, q2⟩)
            · exact .inr (by omega)
        · rintro ((q | q) | q)
          · exact .inl q
          · exact .inr (by omega)
          · exact .inr (by omega)
      · intro s hs
        rcases List.mem_append.1 hs with hs | hs
        · obtain ⟨y, hy, hi⟩ := h.ins s hs
          rcases List.mem_append.1 hy with hy | hy
          · exact ⟨y, by simp [hy], hi⟩
          · cases List.mem_singleton.1 hy
            exact ⟨(w.1, max w.2 x.2), by simp, hi.1, hw', hi.2.2.1, by have := hi.2.2.2; show s.2 ≤ max w.2 x.2; omega⟩
        · cases List.mem_singleton.1 hs
          exact ⟨(w.1, max w.2 x.2), by simp, hx, hw', hlow, by show x.2 ≤ max w.2 x.2; omega⟩
      · intro y hy
        rcases List.mem_append.1 hy with hy | hy
        · obtain ⟨s, hs, e⟩ := h.low y (by simp [hy])
          exact ⟨s, by simp [hs], e⟩
        · cases List.mem_singleton.1 hy
          obtain ⟨s, hs, e⟩ := h.low w (by simp)
          exact ⟨s, by simp [hs], e⟩
      · rw [t3, tot_snoc, ← h.same, tw]
        unfold tst
        simp only
        split
        · rw [Int.max_eq_right hc, Int.max_eq_right (by omega : w.2 ≤ x.2)]
          congr 1
          omega
        · rw [Int.max_eq_left (by omega : x.2 ≤ w.2)]
      · intro v' w' e
        obtain ⟨rfl, rfl⟩ := snoc_inj e
        exact ⟨t1, by rw [t3]⟩
      · intro y hy
        rcases List.mem_append.1 hy with hy | hy
        · obtain ⟨s, hs, e⟩ := h.high y (by simp [hy])
          exact ⟨s, by simp [hs], e⟩
        · cases List.mem_singleton.1 hy
          show ∃ s, s ∈ l ++ [x] ∧ s.2 = max w.2 x.2
          by_cases hc2 : w.2 ≤ x.2
          · exact ⟨x, by simp, by rw [Int.max_eq_right hc2]⟩
          · obtain ⟨s, hs, e⟩ := h.high w (by simp)
            exact ⟨s, by simp [hs], by rw [e, Int.max_eq_left (by omega)]⟩
    · rename_i hc
      have t3 : tot (v ++ [w] ++ [x]) = ((tot (v ++ [w])).1 + (x.2 - x.1), x.2) := by rw [tot_snoc]; exact tst_far (by rw [t2]; omega) hx
      refine ⟨?_, ?_, ?_, ?_, ?_, ?_, ?_, (fun e => by simp at e), ?_, by simp; omega⟩
      · intro y hy
        rcases List.mem_append.1 hy with hy | hy
        · exact h.right y hy
        · cases List.mem_singleton.1 hy; exact hx
      · refine List.pairwise_append.2 ⟨h.rise, List.pairwise_singleton _ _, fun a ha b hb => ?_⟩
        cases List.mem_singleton.1 hb
        rcases List.mem_append.1 ha with ha | ha
        · have := hr.2.2 a ha w (by simp)
          omega
        · cases List.mem_singleton.1 ha; omega
      · intro a
        rw [Hs_snoc, Hs_snoc (l := l), h.cov a]
      · intro s hs
        rcases List.mem_append.1 hs with hs | hs
        · obtain ⟨y, hy, hi⟩ := h.ins s hs
          exact ⟨y, List.mem_append_left _ hy, hi⟩
        · cases List.mem_singleton.1 hs
          exact ⟨x, by simp, hx, hx, Int.le_refl _, Int.le_refl _⟩
      · intro y hy
        rcases List.mem_append.1 hy with hy | hy
        · obtain ⟨s, hs, e⟩ := h.low y hy
          exact ⟨s, List.mem_append_left _ hs, e⟩
        · cases List.mem_singleton.1 hy
          exact ⟨x, by simp, rfl⟩
      · rw [tot_snoc, tot_snoc (l := l), h.same]
      · intro v' w' e
        obtain ⟨rfl, rfl⟩ := snoc_inj e
        exact ⟨by rw [t2]; omega, by rw [t3]⟩
      · intro y hy
        rcases List.mem_append.1 hy with hy | hy
        · obtain ⟨s, hs, e⟩ := h.high y hy
          exact ⟨s, List.mem_append_left _ hs, e⟩
        · cases List.mem_singleton.1 hy
          exact ⟨x, by simp, rfl⟩
theorem un_seg {R : Nat → Sp} {n : Nat} (hs : SortedIn 0 n R) (hr : ∀ i, i < n → (R i).1 < (R i).2) (h0 : ∀ i, i < n → 0 ≤ (R i).1) : ∀ i, i ≤ n → UI (seg R 0 i) (un (seg R 0 i))
  | 0, _ => UI.nil
  | i + 1, hi => by
    rw [seg_succ, un_snoc]
    refine (un_seg hs hr h0 i (by omega)).step (hr i hi) (h0 i hi) fun s hm => ?_
    obtain ⟨j, hj, rfl⟩ := mem_seg.1 hm
    have := hs j i (Nat.zero_le _) (by omega) hi
    rw [le_iff] at this
    omega
theorem rise_ap {u : List Sp} (hr : ∀ x, x ∈ u → x.1 < x.2) (h : u.Pairwise fun x y => x.2 < y.1) : Ap u :=
  ⟨hr, h.imp fun h1 h2 => by have := h2.2.2.2; omega⟩
theorem Hs_flt {E : Nat → Sp} {L : Nat} {a : Int} : Hs (flt (srt E 0 L) L) a ↔ Hs (seg E 0 L) a := by
  constructor
  · rintro ⟨x, hx, h⟩
    exact ⟨x, (seg_srt E L).mem_iff.1 (List.mem_filter.1 hx).1, h⟩
  · rintro ⟨x, hx, h⟩
    exact ⟨x, List.mem_filter.2 ⟨(seg_srt E L).mem_iff.2 hx, rgt_iff.2 (by omega)⟩, h⟩
/-- A list as a stretch. -/
def gt (l : List Sp) : Nat → Sp := fun j => l.getD j (0, 0)
theorem gt_seg (l : List Sp) : seg (gt l) 0 l.length = l := by
  apply List.ext_getElem
  · rw [seg_length]
  · intro j h1 h2
    simp [seg, gt, h2]
theorem gt_of {E : Nat → Sp} {n : Nat} {l : List Sp} (h : seg E 0 n = l) (j : Nat) (hj : j < n) : gt l j = E j := by
  subst h
  simp [gt, seg, hj]
theorem gt_mem {l : List Sp} {i : Nat} (h : i < l.length) : gt l i ∈ l := by
  simp [gt, h]
/-- What rises is sorted and right already. -/
theorem rise_rs {u : List Sp} (hr : ∀ x, x ∈ u → x.1 < x.2) (h : u.Pairwise fun x y => x.2 < y.1) : flt (srt (gt u) 0 u.length) u.length = u := by
  have hs : SortedIn 0 u.length (gt u) := by
    apply of_pairwise
    rw [Nat.sub_zero, gt_seg]
    refine List.Pairwise.imp_of_mem ?_ h
    intro x y hx hy hxy
    have := hr x hx
    exact le_iff.2 (.inl (by omega))
  rw [srt_id hs, flt_all fun j hj => rgt_iff.2 (hr _ (gt_mem hj)), gt_seg]
end Go.Sx.So

end

namespace Go.Sx.S
open Go Go.Sx Go.Proofs Go.RowKit
set_option maxRecDepth 100000
open So
def pre26 (v : V26) : Prop := v.L ≤ v.M ∧ v.L ≤ 30000000000 ∧ ∀ i, i < v.L → 0 ≤ v.F i ∧ v.G i < 18446744073709551616
theorem u64w {x : Int} (h1 : 0 ≤ x) (h2 : x < 18446744073709551616) : IntKind.u64.wrap x = x := wrap_u64_id h1 h2
theorem l26 {n L M : Nat} {F G : Nat → Int} {ob : Obj} {R : Nat → Sp} (hn : n ≤ L) (hL : L ≤ 30000000000) (hr : ∀ i, i < n → (R i).1 < (R i).2) (hb : ∀ i, i < n → 0 ≤ (R i).1 ∧ (R i).2 < 18446744073709551616) :
    LT (r26_0 (P26_0.mk n (n : Int) M ob F G L (fun j => (R j).1) fun j => (R j).2)) (S26_0.mk 0 0 0) ∧
      (fun s : S26_0 => s.x3 = (tot (seg R 0 n)).1) (lastS (r26_0 (P26_0.mk n (n : Int) M ob F G L (fun j => (R j).1) fun j => (R j).2)) (S26_0.mk 0 0 0)) := by
  refine LT.post (fun s : S26_0 => ∃ i : Nat, s.x10 = i ∧ i ≤ n ∧ (s.x3, s.x4) = tot (seg R 0 i) ∧ 0 ≤ s.x3 ∧ s.x3 ≤ s.x4 ∧ s.x4 < 18446744073709551616)
    (fun s : S26_0 => s.x3 = (tot (seg R 0 n)).1) (fun s : S26_0 => (n - s.x10).toNat) ?_ ?_
  rotate_left
  · exact ⟨0, rfl, Nat.zero_le _, rfl, Int.le_refl _, Int.le_refl _, by decide⟩
  rintro ⟨t, e, x⟩ ⟨i, g1, g2, g3, g4, g5, g6⟩
  simp only at g1 g3 g4 g5 g6
  subst g1
  have w2 : IntKind.i64.wrap ((i : Int) + 1) = ((i + 1 : Nat) : Int) := by rw [wi (by omega) (by omega)]; omega
  simp only [r26_0, e26_0_0, e26_0_2, e26_0_3, e26_0_5, e26_0_6, e26_0_7, Tr.ok, Tr.get, w2, Nat.zero_add, Int.toNat_natCast]
  by_cases hc : i < n
  · have hd : cnd (decide ((i : Int) < (n : Int))) false true = false := by rw [decide_eq_true (by omega)]; rfl
    have b1 := hr i hc
    have b2 := hb i hc
    have st : tot (seg R 0 (i + 1)) = tst (t, e) (R i) := by rw [seg_succ, tot_snoc, ← g3]
    rw [hd]
    refine ⟨⟨(fun e => by cases e), fun _ => ⟨⟨by omega, by omega⟩, by omega, trivial⟩⟩, .inr ⟨_, rfl, ⟨i + 1, rfl, by omega, ?_⟩, by simp only [w2]; omega⟩⟩
    rw [st]
    simp only [tst, cndB, decide_eq_true_eq]
    by_cases hh : (R i).2 > e
    · rw [if_pos hh, if_pos hh, if_pos hh]
      have em : (if e > (R i).1 then e else (R i).1) = max (R i).1 e := by
        split
        · rw [Int.max_eq_right (by omega)]
        · rw [Int.max_eq_left (by omega)]
      have m1 : (R i).1 ≤ max (R i).1 e := Int.le_max_left _ _
      have m2 : e ≤ max (R i).1 e := Int.le_max_right _ _
      have m3 : max (R i).1 e ≤ (R i).2 := by omega
      have w5 : IntKind.u64.wrap ((R i).2 - max (R i).1 e) = (R i).2 - max (R i).1 e := u64w (by omega) (by omega)
      rw [em, w5, u64w (by omega) (by omega)]
      exact ⟨rfl, by omega, by omega, by omega⟩
    · rw [if_neg hh, if_neg hh, if_neg hh]
      exact ⟨rfl, g4, g5, g6⟩
  · have hd : cnd (decide ((i : Int) < (n : Int))) false true = true := by rw [decide_eq_false (by omega)]; rfl
    have : i = n := by omega
    subst this
    rw [hd]
    exact ⟨⟨fun _ => trivial, (fun e => by cases e)⟩, .inl ⟨⟨_, _, _, rfl⟩, congrArg Prod.fst g3⟩⟩
theorem rs_mem {E : Nat → Sp} {L : Nat} {p : Sp → Prop} (h : ∀ i, i < L → p (E i)) (i : Nat) (hi : i < (RS E L).length) : p (RSr E L i) := by
  have h1 : RSr E L i ∈ RS E L := by
    have := rs_seg (E := E) (R := RSr E L) (L := L) rfl rfl
    have h2 : RSr E L i ∈ seg (RSr E L) 0 (RS E L).length := mem_seg.2 ⟨i, hi, rfl⟩
    rw [show seg (RSr E L) 0 (RS E L).length = RS E L from this] at h2
    exact h2
  have h2 : RSr E L i ∈ seg (srt E 0 L) 0 L := (List.mem_filter.1 h1).1
  obtain ⟨j, hj, e⟩ := mem_seg.1 ((seg_srt E L).mem_iff.1 h2)
  rw [← e]
  exact h j hj
theorem n26 (v : V26) (h : pre26 v) : (f26 v).ok ∧ (f26 v).get.1 = .int .u64 (tot (RS (sp v.F v.G) v.L)).1 ∧ HOws (f26 v).get.2.1 [HO.ro 27 2 v.M (fun j => [SV.int .u64 (v.F j), SV.int .u64 (v.G j)]) v.ob] := by
  obtain ⟨L, M, ob, F, G⟩ := v
  obtain ⟨h1, h2, h3⟩ : L ≤ M ∧ L ≤ 30000000000 ∧ ∀ i, i < L → 0 ≤ F i ∧ G i < 18446744073709551616 := h
  have hn : (RS (sp F G) L).length ≤ L := flt_length _ _
  obtain ⟨k1, k2⟩ := l26 (M := M) (F := F) (G := G) (ob := ob) (R := RSr (sp F G) L) hn h2 (rs_right rfl rfl) (rs_mem (p := fun x => 0 ≤ x.1 ∧ x.2 < 18446744073709551616) h3)
  refine ⟨⟨⟨h1, h2⟩, k1, trivial⟩, ?_, .refl _⟩
  refine congrArg (SV.int .u64) (k2.trans ?_)
  exact congrArg (fun l => (tot l).1) (rs_seg (E := sp F G) (R := RSr (sp F G) L) rfl rfl)
noncomputable def f26n (v : V26) : Tr (Fin th.R) := .need (pre26 v) (.leaf (.int .u64 (So.tot (RS (sp v.F v.G) v.L)).1, [.ro 27 2 v.M (fun j => [.int .u64 (v.F j), .int .u64 (v.G j)]) v.ob], []))
theorem s26n : Sound Try.prog th 26 (fnC d26 ofV26 f26n) := fnC_refine s26 fun v h => by
  obtain ⟨hp, _⟩ := h
  obtain ⟨a, b, c⟩ := n26 v hp
  exact ⟨a, b.symm, (qdd26 v).symm, c, by show 1 ≤ 1; decide⟩
structure V26w where
  L : Nat
  M : Nat
  F : Nat → Int
  G : Nat → Int
def inj26 (v : V26w) (o : Obj) : V26 := ⟨v.L, v.M, o, v.F, v.G⟩
def A26w (v : V26w) : List SV := [.slc 0 2 0 v.L]
def H26w (v : V26w) : List (HO th.R) := [.row 27 2 v.M (fun j => [.int .u64 (v.F j), .int .u64 (v.G j)])]
def toV26w (v : V26w) : List (Vl th.R) := [.n v.L, .n v.M, .c v.F, .c v.G]
def ofV26w : List (Vl th.R) → Option V26w
  | [.n L, .n M, .c F, .c G] => some ⟨L, M, F, G⟩
  | _ => none
def d26w : Ft := ⟨[.slc0 0 2], [.rowc 27 [.int .u64, .int .u64]]⟩
noncomputable def f26w (v : V26w) : Tr (Fin th.R) := .need (pre26 (inj26 v (.cells #[] 0))) (.leaf (.int .u64 (So.tot (RS (sp (inj26 v (.cells #[] 0)).F (inj26 v (.cells #[] 0)).G) (inj26 v (.cells #[] 0)).L)).1, [.row 27 2 v.M (fun j => [.int .u64 (v.F j), .int .u64 (v.G j)])], []))
theorem cw26 (v : V26w) (o : Obj) : fnC d26 ofV26 f26n (A26 (inj26 v o)) (H26 (inj26 v o)) = some (.need (∀ i, i < v.M → (fun j => [.int .u64 (v.F j), .int .u64 (v.G j)] : Nat → List SV) i = elC (fun j => [.int .u64 (v.F j), .int .u64 (v.G j)] : Nat → List SV) 0 [.int .u64, .int .u64] i) ((f26n (inj26 v o)).map (fixF (H26 (inj26 v o))))) := by kernel_rfl
theorem s26w : Sound Try.prog th 26 (fnC d26w ofV26w f26w) := by
  refine fnC_direct (T := th) d26w A26w H26w toV26w (by kernel_rfl) (fun v => by kernel_rfl) ?_ ?_ (fun v _ => Nat.le_add_left _ _) (fun v _ n hn _ => ?_)
  · intro l v h
    unfold ofV26w at h
    split at h
    · cases h; rfl
    · cases h
  · intro v hok K w0 ρ w vargs I hr
    obtain ⟨hp, _⟩ := hok
    exact ro_row (tl := []) (val := .int .u64 (So.tot (RS (sp (inj26 v (.cells #[] 0)).F (inj26 v (.cells #[] 0)).G) (inj26 v (.cells #[] 0)).L)).1) (fun o K w0 ρ w vargs I hr => fnC_out s26n (cw26 v o) ⟨fun i _ => rfl, hp, trivial⟩ I hr) I hr
  · have hn : n < 1 := hn
    have : n = 0 := by omega
    subst this; rfl
noncomputable def nice26n : List (Nat × CF th.R) := (26, lift (orC (fnC d26 ofV26 f26n) (fnC d26w ofV26w f26w))) :: nice20n
theorem nok26n : NiceOk Try.prog th nice26n := ⟨lift_sound (orC_sound s26n s26w), nok20n⟩
end Go.Sx.S

namespace Go.Sx.S
open Go Go.Sx Go.Proofs Go.RowKit
set_option maxRecDepth 100000
open So
def pre24 (v : V24) : Prop := v.L ≤ v.M ∧ v.L ≤ 30000000000
noncomputable def UN (E : Nat → Sp) (L : Nat) : List Sp := un (RS E L)
theorem l24 {n L M : Nat} {F G F' G' : Nat → Int} {ob : Obj} {R : Nat → Sp} (hn : n ≤ L) (hL : L ≤ 30000000000) :
    LT (r24_0 (P24_0.mk n (n : Int) M ob F G L (fun j => (R j).fst) fun j => (R j).snd)) (S24_0.mk 0 0 0 F' G') ∧
      (fun s : S24_0 => s.N2 = s.n3 ∧ seg (sp s.F2_0 s.F2_1) 0 s.n3 = un (seg R 0 n)) (lastS (r24_0 (P24_0.mk n (n : Int) M ob F G L (fun j => (R j).fst) fun j => (R j).snd)) (S24_0.mk 0 0 0 F' G')) := by
  refine LT.post (fun s : S24_0 => ∃ i : Nat, s.x10 = i ∧ i ≤ n ∧ s.N2 = s.n3 ∧ s.n3 ≤ i ∧ seg (sp s.F2_0 s.F2_1) 0 s.n3 = un (seg R 0 i))
    (fun s : S24_0 => s.N2 = s.n3 ∧ seg (sp s.F2_0 s.F2_1) 0 s.n3 = un (seg R 0 n)) (fun s : S24_0 => (n - s.x10).toNat) ?_ ?_
  rotate_left
  · exact ⟨0, rfl, Nat.zero_le _, rfl, Nat.le_refl _, rfl⟩
  rintro ⟨m, x, N2, A, B⟩ ⟨i, g1, g2, g3, g4, g5⟩
  simp only at g1 g3 g4 g5
  subst g1
  have w2 : IntKind.i64.wrap ((i : Int) + 1) = ((i + 1 : Nat) : Int) := by rw [wi (by omega) (by omega)]; omega
  simp only [r24_0, e24_0_0, e24_0_2, e24_0_3, e24_0_4, e24_0_5, e24_0_6, e24_0_7, e24_0_9, e24_0_10, e24_0_11, e24_0_13, e24_0_14, e24_0_15, Tr.ok, Tr.get, w2, Nat.zero_add, Int.toNat_natCast]
  by_cases hc : i < n
  · have hd : cnd (decide ((i : Int) < (n : Int))) false true = false := by rw [decide_eq_true (by omega)]; rfl
    have su : un (seg R 0 (i + 1)) = ust (seg (sp A B) 0 m) (R i) := by rw [seg_succ, un_snoc, ← g5]
    have push : seg (sp (fun j => cnd (j.blt m) (A j) (R i).1) fun j => cnd (j.blt m) (B j) (R i).2) 0 (m + 1) = seg (sp A B) 0 m ++ [R i] := by
      rw [seg_succ]
      congr 1
      · exact seg_congr fun j hj => by simp [sp, cndB, bltT, hj]
      · simp [sp, cndB, bltT]
    rw [hd]
    by_cases h0 : 0 < m
    · obtain ⟨k, rfl⟩ : ∃ k, m = k + 1 := ⟨m - 1, by omega⟩
      have w1 : IntKind.i64.wrap (((k + 1 : Nat) : Int) - 1) = (k : Int) := by rw [wi (by omega) (by omega)]; omega
      rw [seg_succ (sp A B) k, ust_snoc] at su
      rw [decide_eq_true (show ((k + 1 : Nat) : Int) > 0 by omega), w1]
      simp only [Int.toNat_natCast]
      by_cases hm : (R i).1 ≤ B k
      · rw [decide_eq_true hm]
        refine ⟨⟨(fun e => by cases e), fun _ => ⟨⟨by omega, by omega⟩, by omega, ⟨fun _ => ⟨by omega, by omega⟩, fun _ => by omega⟩, fun _ => ?_, (fun e => by cases e), fun _ => trivial, fun _ => trivial⟩⟩, .inr ⟨_, rfl, ⟨i + 1, rfl, by omega, g3, by show k + 1 ≤ i + 1; omega, ?_⟩, by simp only [w2]; omega⟩⟩
        · (repeat' apply And.intro) <;> first | trivial | omega | (intros; omega)
        · rw [su, if_pos (show (R i).1 ≤ (sp A B k).2 from hm)]
          show seg _ 0 (k + 1) = _
          rw [seg_succ]
          congr 1
          · exact seg_congr fun j hj => by
              have : j ≠ k := by omega
              simp [sp, cndB, this]
          · have : (if (R i).2 > B k then (R i).2 else B k) = max (B k) (R i).2 := by
              split
              · rw [Int.max_eq_right (by omega)]
              · rw [Int.max_eq_left (by omega)]
            simp [sp, cndB, this]
      · rw [decide_eq_false hm]
        refine ⟨⟨(fun e => by cases e), fun _ => ⟨⟨by omega, by omega⟩, by omega, ⟨fun _ => ⟨by omega, by omega⟩, fun _ => by omega⟩, (fun e => by cases e), fun _ => ?_, fun _ => trivial, fun _ => trivial⟩⟩, .inr ⟨_, rfl, ⟨i + 1, rfl, by omega, rfl, by show k + 1 + 1 ≤ i + 1; omega, ?_⟩, by simp only [w2]; omega⟩⟩
        · (repeat' apply And.intro) <;> first | trivial | omega
        · rw [su, if_neg (show ¬ (R i).1 ≤ (sp A B k).2 from hm), ← seg_succ]; exact push
    · have : m = 0 := by omega
      subst this
      rw [decide_eq_false (show ¬ ((0:Nat) : Int) > 0 by omega)]
      refine ⟨⟨(fun e => by cases e), fun _ => ⟨⟨by omega, by omega⟩, by omega, ⟨(fun e => by cases e), (fun e => by cases e)⟩, (fun e => by cases e), fun _ => ?_, fun _ => trivial, fun _ => trivial⟩⟩, .inr ⟨_, rfl, ⟨i + 1, rfl, by omega, rfl, by show 0 + 1 ≤ i + 1; omega, ?_⟩, by simp only [w2]; omega⟩⟩
      · (repeat' apply And.intro) <;> first | trivial | omega
      · rw [su]; exact push
  · have hd : cnd (decide ((i : Int) < (n : Int))) false true = true := by rw [decide_eq_false (by omega)]; rfl
    have : i = n := by omega
    subst this
    rw [hd]
    exact ⟨⟨fun _ => trivial, (fun e => by cases e)⟩, .inl ⟨⟨_, _, _, rfl⟩, g3, g5⟩⟩
theorem n24 (v : V24) (h : pre24 v) : (f24 v).ok ∧ (f24 v).get.1 = .slc 2 2 0 (UN (sp v.F v.G) v.L).length ∧
    HOws (f24 v).get.2.1 [HO.ro 27 2 v.M (fun j => [SV.int .u64 (v.F j), SV.int .u64 (v.G j)]) v.ob, rowQ v.L (RSr (sp v.F v.G) v.L), rowQ (UN (sp v.F v.G) v.L).length (gt (UN (sp v.F v.G) v.L))] := by
  obtain ⟨L, M, ob, F, G⟩ := v
  obtain ⟨h1, h2⟩ : L ≤ M ∧ L ≤ 30000000000 := h
  have hn : (RS (sp F G) L).length ≤ L := flt_length _ _
  obtain ⟨k1, k2, k3⟩ := l24 (M := M) (F := F) (G := G) (F' := colI (fun j => []) 0) (G' := colI (fun j => []) 1) (ob := ob) (R := RSr (sp F G) L) hn h2
  have k3 : seg (sp (f24z0 (V24.mk L M ob F G)).F2_0 (f24z0 (V24.mk L M ob F G)).F2_1) 0 (f24z0 (V24.mk L M ob F G)).n3 = UN (sp F G) L := k3.trans (congrArg un (rs_seg (E := sp F G) (R := RSr (sp F G) L) rfl rfl))
  have k4 : (f24z0 (V24.mk L M ob F G)).n3 = (UN (sp F G) L).length := by rw [← k3, seg_length]
  have k2 : (f24z0 (V24.mk L M ob F G)).N2 = (UN (sp F G) L).length := Eq.trans k2 k4
  refine ⟨⟨⟨h1, h2⟩, k1, trivial⟩, congrArg (SV.slc 2 2 0) k4, ?_⟩
  show HOws [_, _, HO.row 27 2 (f24z0 (V24.mk L M ob F G)).N2 _] _
  rw [k2]
  refine .cons (.refl _) (.cons (.refl _) (.cons (.row fun i hi => ?_) .nil))
  have := gt_of k3 i (by omega)
  show [SV.int .u64 _, SV.int .u64 _] = [SV.int .u64 _, SV.int .u64 _]
  rw [this]
  rfl
noncomputable def f24n (v : V24) : Tr (Fin th.R) := .need (pre24 v) (.leaf (.slc 2 2 0 (UN (sp v.F v.G) v.L).length, [.ro 27 2 v.M (fun j => [.int .u64 (v.F j), .int .u64 (v.G j)]) v.ob, rowQ v.L (RSr (sp v.F v.G) v.L), rowQ (UN (sp v.F v.G) v.L).length (gt (UN (sp v.F v.G) v.L))], []))
theorem s24n : Sound Try.prog th 24 (fnC d24 ofV24 f24n) := fnC_refine s24 fun v h => by
  obtain ⟨hp, _⟩ := h
  obtain ⟨a, b, c⟩ := n24 v hp
  exact ⟨a, b.symm, (qdd24 v).symm, c, by show 1 ≤ 3; decide⟩
structure V24w where
  L : Nat
  M : Nat
  F : Nat → Int
  G : Nat → Int
def inj24 (v : V24w) (o : Obj) : V24 := ⟨v.L, v.M, o, v.F, v.G⟩
def A24w (v : V24w) : List SV := [.slc 0 2 0 v.L]
def H24w (v : V24w) : List (HO th.R) := [.row 27 2 v.M (fun j => [.int .u64 (v.F j), .int .u64 (v.G j)])]
def toV24w (v : V24w) : List (Vl th.R) := [.n v.L, .n v.M, .c v.F, .c v.G]
def ofV24w : List (Vl th.R) → Option V24w
  | [.n L, .n M, .c F, .c G] => some ⟨L, M, F, G⟩
  | _ => none
def d24w : Ft := ⟨[.slc0 0 2], [.rowc 27 [.int .u64, .int .u64]]⟩
noncomputable def f24w (v : V24w) : Tr (Fin th.R) := .need (pre24 (inj24 v (.cells #[] 0))) (.leaf (.slc 2 2 0 (UN (sp (inj24 v (.cells #[] 0)).F (inj24 v (.cells #[] 0)).G) (inj24 v (.cells #[] 0)).L).length, [.row 27 2 v.M (fun j => [.int .u64 (v.F j), .int .u64 (v.G j)]), rowQ (inj24 v (.cells #[] 0)).L (RSr (sp (inj24 v (.cells #[] 0)).F (inj24 v (.cells #[] 0)).G) (inj24 v (.cells #[] 0)).L), rowQ (UN (sp (inj24 v (.cells #[] 0)).F (inj24 v (.cells #[] 0)).G) (inj24 v (.cells #[] 0)).L).length (gt (UN (sp (inj24 v (.cells #[] 0)).F (inj24 v (.cells #[] 0)).G) (inj24 v (.cells #[] 0)).L))], []))
theorem cw24 (v : V24w) (o : Obj) : fnC d24 ofV24 f24n (A24 (inj24 v o)) (H24 (inj24 v o)) = some (.need (∀ i, i < v.M → (fun j => [.int .u64 (v.F j), .int .u64 (v.G j)] : Nat → List SV) i = elC (fun j => [.int .u64 (v.F j), .int .u64 (v.G j)] : Nat → List SV) 0 [.int .u64, .int .u64] i) ((f24n (inj24 v o)).map (fixF (H24 (inj24 v o))))) := by kernel_rfl
theorem s24w : Sound Try.prog th 24 (fnC d24w ofV24w f24w) := by
  refine fnC_direct (T := th) d24w A24w H24w toV24w (by kernel_rfl) (fun v => by kernel_rfl) ?_ ?_ (fun v _ => Nat.le_add_left _ _) (fun v _ n hn _ => ?_)
  · intro l v h
    unfold ofV24w at h
    split at h
    · cases h; rfl
    · cases h
  · intro v hok K w0 ρ w vargs I hr
    obtain ⟨hp, _⟩ := hok
    exact ro_row (tl := [rowQ (inj24 v (.cells #[] 0)).L (RSr (sp (inj24 v (.cells #[] 0)).F (inj24 v (.cells #[] 0)).G) (inj24 v (.cells #[] 0)).L), rowQ (UN (sp (inj24 v (.cells #[] 0)).F (inj24 v (.cells #[] 0)).G) (inj24 v (.cells #[] 0)).L).length (gt (UN (sp (inj24 v (.cells #[] 0)).F (inj24 v (.cells #[] 0)).G) (inj24 v (.cells #[] 0)).L))]) (val := .slc 2 2 0 (UN (sp (inj24 v (.cells #[] 0)).F (inj24 v (.cells #[] 0)).G) (inj24 v (.cells #[] 0)).L).length) (fun o K w0 ρ w vargs I hr => fnC_out s24n (cw24 v o) ⟨fun i _ => rfl, hp, trivial⟩ I hr) I hr
  · have hn : n < 1 := hn
    have : n = 0 := by omega
    subst this; rfl
noncomputable def nice24n : List (Nat × CF th.R) := (24, lift (orC (fnC d24 ofV24 f24n) (fnC d24w ofV24w f24w))) :: nice26n
theorem nok24n : NiceOk Try.prog th nice24n := ⟨lift_sound (orC_sound s24n s24w), nok26n⟩
end Go.Sx.S

section
namespace Go.Sx.So
/-- One more span, seen from the holes: the holes so far, and up to where. -/
def hst (b : Int) (s : List Sp × Int) (x : Sp) : List Sp × Int := (if s.2 < min x.1 b then s.1 ++ [(s.2, min x.1 b)] else s.1, max s.2 x.2)
def hol0 (w : Sp) (l : List Sp) : List Sp × Int := l.foldl (hst w.2) ([], w.1)
theorem hol0_snoc (w : Sp) (l : List Sp) (x : Sp) : hol0 w (l ++ [x]) = hst w.2 (hol0 w l) x := by simp [hol0, List.foldl_append]
def hol (w : Sp) (l : List Sp) : List Sp := if (hol0 w l).2 < w.2 then (hol0 w l).1 ++ [((hol0 w l).2, w.2)] else (hol0 w l).1
/-- The holes so far. -/
structure HI (w : Sp) (l : List Sp) (out : List Sp) (at_ : Int) : Prop where
  right : ∀ x, x ∈ out → x.1 < x.2
  rise : out.Pairwise fun x y => x.2 < y.1
  last : ∀ x, x ∈ out → x.2 < at_ ∨ w.2 ≤ x.2
  cov : ∀ a, Hs out a ↔ w.1 ≤ a ∧ a < at_ ∧ a < w.2 ∧ ¬ Hs l a
  far : ∀ a, at_ ≤ a → ¬ Hs l a
  top : at_ = w.1 ∨ ∃ s, s ∈ l ∧ s.2 = at_
  lo : w.1 ≤ at_
  len : out.length ≤ l.length
  below : ∀ x, x ∈ out → x.2 ≤ at_
theorem HI.nil {w : Sp} : HI w [] [] w.1 := ⟨(fun _ h => by cases h), List.Pairwise.nil, (fun _ h => by cases h), fun a => ⟨fun h => absurd h Hs_nil, fun h => by omega⟩, fun _ _ => Hs_nil, .inl rfl, Int.le_refl _, Nat.le_refl _, fun _ h => by cases h⟩
theorem HI.step {w : Sp} {l out : List Sp} {t : Int} (h : HI w l out t) {x : Sp} (hx : x.1 < x.2) (hl : ∀ s, s ∈ l → s.1 ≤ x.1) :
    HI w (l ++ [x]) (hst w.2 (out, t) x).1 (hst w.2 (out, t) x).2 := by
  have inl : ∀ a, w.1 ≤ a → a < t → x.1 ≤ a → Hs l a := fun a h1 h2 h3 => by
    rcases h.top with e | ⟨s, hs, e⟩
    · omega
    · exact ⟨s, hs, by have := hl s hs; omega, by omega⟩
  have far' : ∀ a, max t x.2 ≤ a → ¬ Hs (l ++ [x]) a := fun a ha hh => by
    rcases Hs_snoc.1 hh with hh | hh
    · exact h.far a (by omega) hh
    · omega
  have top' : max t x.2 = w.1 ∨ ∃ s, s ∈ l ++ [x] ∧ s.2 = max t x.2 := by
    by_cases hc : t ≤ x.2
    · exact .inr ⟨x, by simp, by omega⟩
    · rcases h.top with e | ⟨s, hs, e⟩
      · exact .inl (by omega)
      · exact .inr ⟨s, by simp [hs], by omega⟩
  have lo := h.lo
  by_cases hc : t < min x.1 w.2
  · have e : hst w.2 (out, t) x = (out ++ [(t, min x.1 w.2)], max t x.2) := by unfold hst; rw [if_pos hc]
    rw [e]
    refine ⟨?_, ?_, ?_, ?_, far', top', by show w.1 ≤ max t x.2; omega, by simp; exact h.len, ?_⟩
    · intro y hy
      rcases List.mem_append.1 hy with hy | hy
      · exact h.right y hy
      · cases List.mem_singleton.1 hy; exact hc
    · refine List.pairwise_append.2 ⟨h.rise, List.pairwise_singleton _ _, fun a ha b hb => ?_⟩
      cases List.mem_singleton.1 hb
      rcases h.last a ha with q | q
      · exact q
      · have := h.below a ha
        show a.2 < t
        omega
    · intro y hy
      show y.2 < max t x.2 ∨ w.2 ≤ y.2
      rcases List.mem_append.1 hy with hy | hy
      · rcases h.last y hy with q | q
        · left; omega
        · right; exact q
      · cases List.mem_singleton.1 hy
        show min x.1 w.2 < _ ∨ w.2 ≤ min x.1 w.2
        omega
    · intro a
      rw [Hs_snoc, Hs_snoc, h.cov a]
      show _ ∨ (t ≤ a ∧ a < min x.1 w.2) ↔ w.1 ≤ a ∧ a < max t x.2 ∧ _
      constructor
      · rintro (⟨q1, q2, q3, q4⟩ | ⟨q1, q2⟩)
        · refine ⟨q1, by omega, q3, ?_⟩
          rintro (k | k)
          · exact q4 k
          · exact q4 (inl a q1 q2 k.1)
        · refine ⟨by omega, by omega, by omega, ?_⟩
          rintro (k | k)
          · exact h.far a q1 k
          · omega
      · rintro ⟨q1, q2, q3, q4⟩
        by_cases ha : a < t
        · exact .inl ⟨q1, ha, q3, fun k => q4 (.inl k)⟩
        · right
          refine ⟨by omega, ?_⟩
          have : ¬ (x.1 ≤ a ∧ a < x.2) := fun k => q4 (.inr k)
          omega
    · intro y hy
      show y.2 ≤ max t x.2
      rcases List.mem_append.1 hy with hy | hy
      · have := h.below y hy; omega
      · cases List.mem_singleton.1 hy
        show min x.1 w.2 ≤ _
        omega
  · have e : hst w.2 (out, t) x = (out, max t x.2) := by unfold hst; rw [if_neg hc]
    rw [e]
    refine ⟨h.right, h.rise, ?_, ?_, far', top', by show w.1 ≤ max t x.2; omega, by simp; have := h.len; omega, ?_⟩
    · intro y hy
      show y.2 < max t x.2 ∨ w.2 ≤ y.2
      rcases h.last y hy with q | q
      · left; omega
      · right; exact q
    · intro a
      rw [Hs_snoc, h.cov a]
      show _ ↔ w.1 ≤ a ∧ a < max t x.2 ∧ _
      constructor
      · rintro ⟨q1, q2, q3, q4⟩
        refine ⟨q1, by omega, q3, ?_⟩
        rintro (k | k)
        · exact q4 k
        · exact q4 (inl a q1 q2 k.1)
      · rintro ⟨q1, q2, q3, q4⟩
        refine ⟨q1, ?_, q3, fun k => q4 (.inl k)⟩
        have : ¬ (x.1 ≤ a ∧ a < x.2) := fun k => q4 (.inr k)
        omega
    · intro y hy
      show y.2 ≤ max t x.2
      have := h.below y hy; omega
theorem hol_seg {w : Sp} {R : Nat → Sp} {n : Nat} (hs : SortedIn 0 n R) (hr : ∀ i, i < n → (R i).1 < (R i).2) : ∀ i, i ≤ n → HI w (seg R 0 i) (hol0 w (seg R 0 i)).1 (hol0 w (seg R 0 i)).2
  | 0, _ => HI.nil
  | i + 1, hi => by
    rw [seg_succ, hol0_snoc]
    refine (hol_seg hs hr i (by omega)).step (hr i hi) fun s hm => ?_
    obtain ⟨j, hj, rfl⟩ := mem_seg.1 hm
    have := hs j i (Nat.zero_le _) (by omega) hi
    rw [le_iff] at this
    omega
/-- Right spans that rise, and their addresses. -/
structure Ris (l : List Sp) (P : Int → Prop) : Prop where
  right : ∀ x, x ∈ l → x.1 < x.2
  rise : l.Pairwise fun x y => x.2 < y.1
  cov : ∀ a, Hs l a ↔ P a
theorem hol_ris {w : Sp} {l out : List Sp} {t : Int} (h : HI w l out t) (hw : w.1 < w.2) :
    Ris (if t < w.2 then out ++ [(t, w.2)] else out) fun a => w.1 ≤ a ∧ a < w.2 ∧ ¬ Hs l a := by
  split
  · rename_i hc
    refine ⟨?_, ?_, ?_⟩
    · intro y hy
      rcases List.mem_append.1 hy with hy | hy
      · exact h.right y hy
      · cases List.mem_singleton.1 hy; exact hc
    · refine List.pairwise_append.2 ⟨h.rise, List.pairwise_singleton _ _, fun a ha b hb => ?_⟩
      cases List.mem_singleton.1 hb
      rcases h.last a ha with q | q
      · exact q
      · have := h.below a ha
        show a.2 < t
        omega
    · intro a
      rw [Hs_snoc, h.cov a]
      constructor
      · rintro (⟨q1, q2, q3, q4⟩ | ⟨q1, q2⟩)
        · exact ⟨q1, q3, q4⟩
        · have := h.lo
          exact ⟨by simp only at q1; omega, q2, h.far a q1⟩
      · rintro ⟨q1, q3, q4⟩
        by_cases ha : a < t
        · exact .inl ⟨q1, ha, q3, q4⟩
        · exact .inr ⟨by simp only; omega, q3⟩
  · rename_i hc
    refine ⟨h.right, h.rise, fun a => ?_⟩
    rw [h.cov a]
    exact ⟨fun ⟨q1, _, q3, q4⟩ => ⟨q1, q3, q4⟩, fun ⟨q1, q3, q4⟩ => ⟨q1, by omega, q3, q4⟩⟩
theorem Hs_cons {x : Sp} {l : List Sp} {a : Int} : Hs (x :: l) a ↔ (x.1 ≤ a ∧ a < x.2) ∨ Hs l a := by
  unfold Hs
  constructor
  · rintro ⟨y, hy, h⟩
    rcases List.mem_cons.1 hy with rfl | hy
    · exact .inl h
    · exact .inr ⟨y, hy, h⟩
  · rintro (h | ⟨y, hy, h⟩)
    · exact ⟨x, List.mem_cons_self, h⟩
    · exact ⟨y, List.mem_cons_of_mem _ hy, h⟩
/-- Rising right spans are told by their addresses. -/
theorem Ris.unique : ∀ {l m : List Sp} {P : Int → Prop}, Ris l P → Ris m P → l = m
  | [], [], _, _, _ => rfl
  | [], y :: m, P, h, k => by
    have hy := k.right y List.mem_cons_self
    have := (h.cov y.1).2 ((k.cov y.1).1 (Hs_cons.2 (.inl ⟨Int.le_refl _, hy⟩)))
    exact absurd this Hs_nil
  | x :: l, [], P, h, k => by
    have hy := h.right x List.mem_cons_self
    have := (k.cov x.1).2 ((h.cov x.1).1 (Hs_cons.2 (.inl ⟨Int.le_refl _, hy⟩)))
    exact absurd this Hs_nil
  | x :: l, y :: m, P, h, k => by
    have hx := h.right x List.mem_cons_self
    have hy := k.right y List.mem_cons_self
    have hlx := (List.pairwise_cons.1 h.rise).1
    have hky := (List.pairwise_cons.1 k.rise).1
    have low : ∀ {x : Sp} {l : List Sp}, x.1 < x.2 → (∀ y, y ∈ l → x.2 < y.1) → ∀ a, Hs (x :: l) a → x.1 ≤ a := fun {x l} hx hl a ha => by
      rcases Hs_cons.1 ha with q | ⟨z, hz, q⟩
      · exact q.1
      · have := hl z hz; omega
    have e1 : x.1 = y.1 := by
      have a1 := low hy hky x.1 ((k.cov x.1).2 ((h.cov x.1).1 (Hs_cons.2 (.inl ⟨Int.le_refl _, hx⟩))))
      have a2 := low hx hlx y.1 ((h.cov y.1).2 ((k.cov y.1).1 (Hs_cons.2 (.inl ⟨Int.le_refl _, hy⟩))))
      omega
    have end' : ∀ {x : Sp} {l : List Sp}, (∀ y, y ∈ l → x.2 < y.1) → ¬ Hs (x :: l) x.2 := fun {x l} hl ha => by
      rcases Hs_cons.1 ha with q | ⟨z, hz, q⟩
      · omega
      · have := hl z hz; omega
    have e2 : x.2 = y.2 := by
      have a1 : ¬ Hs (y :: m) x.2 := fun q => end' hlx ((h.cov x.2).2 ((k.cov x.2).1 q))
      have a2 : ¬ Hs (x :: l) y.2 := fun q => end' hky ((k.cov y.2).2 ((h.cov y.2).1 q))
      have b1 : ¬ (y.1 ≤ x.2 ∧ x.2 < y.2) := fun q => a1 (Hs_cons.2 (.inl q))
      have b2 : ¬ (x.1 ≤ y.2 ∧ y.2 < x.2) := fun q => a2 (Hs_cons.2 (.inl q))
      omega
    obtain rfl : x = y := Prod.ext e1 e2
    have tail : ∀ {x : Sp} {l : List Sp} {P : Int → Prop}, Ris (x :: l) P → Ris l fun a => P a ∧ x.2 ≤ a := fun {x l P} h => by
      have hlx := (List.pairwise_cons.1 h.rise).1
      refine ⟨fun y hy => h.right y (List.mem_cons_of_mem _ hy), (List.pairwise_cons.1 h.rise).2, fun a => ?_⟩
      constructor
      · intro q
        refine ⟨(h.cov a).1 (Hs_cons.2 (.inr q)), ?_⟩
        obtain ⟨z, hz, q⟩ := q
        have := hlx z hz
        omega
      · rintro ⟨q1, q2⟩
        rcases Hs_cons.1 ((h.cov a).2 q1) with q | q
        · omega
        · exact q
    rw [Ris.unique (tail h) (tail k)]
end Go.Sx.So

end

namespace Go.Sx.S
open Go Go.Sx Go.Proofs Go.RowKit
set_option maxRecDepth 100000
open So
def pre27 (v : V27) : Prop := v.L ≤ v.M ∧ v.L ≤ 10000000000
/-- The holes. -/
noncomputable def HL (E : Nat → Sp) (L : Nat) (w : Sp) : List Sp := if w.1 < w.2 then hol w (RS E L) else []
theorem seg_push27 {A B : Nat → Int} {m : Nat} {x : Sp} : seg (sp (fun j => cnd (j.blt m) (A j) x.1) fun j => cnd (j.blt m) (B j) x.2) 0 (m + 1) = seg (sp A B) 0 m ++ [x] := by
  rw [seg_succ]
  congr 1
  · exact seg_congr fun j hj => by simp [sp, cndB, bltT, hj]
  · simp [sp, cndB, bltT]
theorem l27 {n L M : Nat} {F G F' G' : Nat → Int} {ob : Obj} {R : Nat → Sp} {w : Sp} (hn : n ≤ L) (hL : L ≤ 10000000000) :
    LT (r27_0 (P27_0.mk n (n : Int) M ob F G w.1 w.2 L (fun j => (R j).fst) fun j => (R j).snd)) (S27_0.mk 0 w.1 0 0 F' G') ∧
      (fun s : S27_0 => s.N3 = s.n5 ∧ s.n5 ≤ n ∧ (seg (sp s.F3_0 s.F3_1) 0 s.n5, s.x6) = hol0 w (seg R 0 n)) (lastS (r27_0 (P27_0.mk n (n : Int) M ob F G w.1 w.2 L (fun j => (R j).fst) fun j => (R j).snd)) (S27_0.mk 0 w.1 0 0 F' G')) := by
  refine LT.post (fun s : S27_0 => ∃ i : Nat, s.x19 = i ∧ i ≤ n ∧ s.N3 = s.n5 ∧ s.n5 ≤ i ∧ (seg (sp s.F3_0 s.F3_1) 0 s.n5, s.x6) = hol0 w (seg R 0 i))
    (fun s : S27_0 => s.N3 = s.n5 ∧ s.n5 ≤ n ∧ (seg (sp s.F3_0 s.F3_1) 0 s.n5, s.x6) = hol0 w (seg R 0 n)) (fun s : S27_0 => (n - s.x19).toNat) ?_ ?_
  rotate_left
  · exact ⟨0, rfl, Nat.zero_le _, rfl, Nat.le_refl _, rfl⟩
  rintro ⟨m, t, x, N3, A, B⟩ ⟨i, g1, g2, g3, g4, g5⟩
  simp only at g1 g3 g4 g5
  subst g1
  have w2 : IntKind.i64.wrap ((i : Int) + 1) = ((i + 1 : Nat) : Int) := by rw [wi (by omega) (by omega)]; omega
  have em : (if w.2 < (R i).1 then w.2 else (R i).1) = min (R i).1 w.2 := by split <;> omega
  have ex : (if (R i).2 > t then (R i).2 else t) = max t (R i).2 := by split <;> omega
  have su : hol0 w (seg R 0 (i + 1)) = hst w.2 (seg (sp A B) 0 m, t) (R i) := by rw [seg_succ, hol0_snoc, ← g5]
  simp only [r27_0, e27_0_0, e27_0_2, e27_0_3, e27_0_4, e27_0_5, e27_0_7, e27_0_8, e27_0_9, e27_0_10, e27_0_11, Tr.ok, Tr.get, w2, Nat.zero_add, Int.toNat_natCast, em, ex, f11_0]
  by_cases hc : i < n
  · have hd : cnd (decide ((i : Int) < (n : Int))) false true = false := by rw [decide_eq_true (by omega)]; rfl
    rw [hd]
    by_cases hm : t < min (R i).1 w.2
    · rw [decide_eq_true hm]
      refine ⟨⟨(fun e => by cases e), fun _ => ?_⟩, .inr ⟨_, rfl, ⟨i + 1, rfl, by omega, rfl, by show m + 1 ≤ i + 1; omega, ?_⟩, by simp only [w2]; omega⟩⟩
      · (repeat' apply And.intro) <;> intros <;> (repeat' apply And.intro) <;> intros <;> first | trivial | omega
      · rw [su, hst, if_pos hm]
        exact Prod.ext (seg_push27 (x := (t, min (R i).1 w.2))) rfl
    · rw [decide_eq_false hm]
      refine ⟨⟨(fun e => by cases e), fun _ => ?_⟩, .inr ⟨_, rfl, ⟨i + 1, rfl, by omega, g3, by show m ≤ i + 1; omega, ?_⟩, by simp only [w2]; omega⟩⟩
      · (repeat' apply And.intro) <;> intros <;> (repeat' apply And.intro) <;> intros <;> first | trivial | omega | contradiction
      · rw [su, hst, if_neg hm]
  · have hd : cnd (decide ((i : Int) < (n : Int))) false true = true := by rw [decide_eq_false (by omega)]; rfl
    have : i = n := by omega
    subst this
    rw [hd]
    exact ⟨⟨fun _ => trivial, (fun e => by cases e)⟩, .inl ⟨⟨_, _, _, rfl⟩, g3, g4, g5⟩⟩
noncomputable def f27n (v : V27) : Tr (Fin th.R) := .need (pre27 v) (.leaf (.slc 1 2 0 (HL (sp v.F v.G) v.L (v.wf, v.wt)).length, [.ro 27 2 v.M (fun j => [.int .u64 (v.F j), .int .u64 (v.G j)]) v.ob, rowQ (HL (sp v.F v.G) v.L (v.wf, v.wt)).length (gt (HL (sp v.F v.G) v.L (v.wf, v.wt)))], []))
theorem n27 (v : V27) (h : pre27 v) : (f27 v).ok ∧ (
    ((f27 v).get = (.nils, [.ro 27 2 v.M (fun j => [.int .u64 (v.F j), .int .u64 (v.G j)]) v.ob], []) ∧ (HL (sp v.F v.G) v.L (v.wf, v.wt)).length = 0) ∨
    (∃ o1 o2 o3 o4 o5 el, (f27 v).get = (.slc 6 2 0 (HL (sp v.F v.G) v.L (v.wf, v.wt)).length, [.ro 27 2 v.M (fun j => [.int .u64 (v.F j), .int .u64 (v.G j)]) v.ob, o1, o2, o3, o4, o5, rowQ (HL (sp v.F v.G) v.L (v.wf, v.wt)).length el], []) ∧ ∀ i, i < (HL (sp v.F v.G) v.L (v.wf, v.wt)).length → el i = gt (HL (sp v.F v.G) v.L (v.wf, v.wt)) i) ∨
    (∃ o1 o2 o4 el, (f27 v).get = (.slc 3 2 0 (HL (sp v.F v.G) v.L (v.wf, v.wt)).length, [.ro 27 2 v.M (fun j => [.int .u64 (v.F j), .int .u64 (v.G j)]) v.ob, o1, o2, rowQ (HL (sp v.F v.G) v.L (v.wf, v.wt)).length el, o4], []) ∧ ∀ i, i < (HL (sp v.F v.G) v.L (v.wf, v.wt)).length → el i = gt (HL (sp v.F v.G) v.L (v.wf, v.wt)) i)) := by
  cases v with
  | mk L wf wt M ob F G =>
  obtain ⟨h1, h2⟩ : L ≤ M ∧ L ≤ 10000000000 := h
  have hn : (RS (sp F G) L).length ≤ L := flt_length _ _
  obtain ⟨k1, k2⟩ := l27 (M := M) (F := F) (G := G) (F' := colI (fun j => []) 0) (G' := colI (fun j => []) 1) (ob := ob) (R := RSr (sp F G) L) (w := (wf, wt)) hn h2
  have e : seg (RSr (sp F G) L) 0 (RS (sp F G) L).length = RS (sp F G) L := rs_seg rfl rfl
  rw [e] at k2
  have k2 : (f27z0 (V27.mk L wf wt M ob F G)).N3 = (f27z0 (V27.mk L wf wt M ob F G)).n5 ∧ (f27z0 (V27.mk L wf wt M ob F G)).n5 ≤ (RS (sp F G) L).length ∧ (seg (sp (f27z0 (V27.mk L wf wt M ob F G)).F3_0 (f27z0 (V27.mk L wf wt M ob F G)).F3_1) 0 (f27z0 (V27.mk L wf wt M ob F G)).n5, (f27z0 (V27.mk L wf wt M ob F G)).x6) = hol0 (wf, wt) (RS (sp F G) L) := k2
  generalize hz : f27z0 (V27.mk L wf wt M ob F G) = z at k2
  obtain ⟨a1, a2, a3⟩ := k2
  have a4 : z.x6 = (hol0 (wf, wt) (RS (sp F G) L)).2 := congrArg Prod.snd a3
  have a5 : seg (sp z.F3_0 z.F3_1) 0 z.n5 = (hol0 (wf, wt) (RS (sp F G) L)).1 := congrArg Prod.fst a3
  by_cases hw : wf < wt
  · have d7 : f27_7 (V27.mk L wf wt M ob F G) = false := by simp [f27_7, f11_0, hw]
    by_cases h8 : z.x6 < wt
    · have d8 : f27_8 (V27.mk L wf wt M ob F G) = true := by simp only [f27_8, hz, f11_0]; exact decide_eq_true h8
      have hl : HL (sp F G) L (wf, wt) = seg (sp z.F3_0 z.F3_1) 0 z.n5 ++ [(z.x6, wt)] := by
        unfold HL hol
        rw [if_pos (show (wf, wt).1 < (wf, wt).2 from hw), ← a4, ← a5, if_pos (show z.x6 < (wf, wt).2 from h8)]
      have hseg : seg (sp (fun j => cnd (j.blt z.n5) (z.F3_0 j) z.x6) fun j => cnd (j.blt z.n5) (z.F3_1 j) wt) 0 (z.n5 + 1) = HL (sp F G) L (wf, wt) := by rw [hl]; exact seg_push27 (x := (z.x6, wt))
      have hlen : (HL (sp F G) L (wf, wt)).length = z.n5 + 1 := by rw [← hseg, seg_length]
      refine ⟨⟨fun _ => ⟨h1, by show L ≤ 30000000000; omega⟩, fun _ => k1, fun _ _ => ?_, ?_⟩, .inr (.inl ?_)⟩
      · simp only [hz]
        (repeat' apply And.intro) <;> first | trivial | omega
      · exact ⟨fun _ => trivial, fun _ => ⟨fun _ => trivial, fun _ => trivial⟩⟩
      · refine ⟨.cells 27 [.int .u64 wf, .int .u64 wt], .row 27 2 L (fun j => [.int .u64 (f27_10 (V27.mk L wf wt M ob F G) j), .int .u64 (f27_11 (V27.mk L wf wt M ob F G) j)]), .gone, .cells 27 [.int .u64 (f27_12 (V27.mk L wf wt M ob F G)), .int .u64 wt], .row 27 2 1 (fun u => [.int .u64 (f27_13 (V27.mk L wf wt M ob F G) u), .int .u64 wt]), sp (fun j => cnd (j.blt z.n5) (z.F3_0 j) z.x6) fun j => cnd (j.blt z.n5) (z.F3_1 j) wt, ?_, fun i (hi : i < (HL (sp F G) L (wf, wt)).length) => (gt_of hseg i (by omega)).symm⟩
        simp only [f27, Tr.get, d7, d8]
        rw [hlen]
        simp only [f27_9, f27_14, f27_15, hz]
        rfl
    · have d8 : f27_8 (V27.mk L wf wt M ob F G) = false := by simp only [f27_8, hz, f11_0]; exact decide_eq_false h8
      have hl : HL (sp F G) L (wf, wt) = seg (sp z.F3_0 z.F3_1) 0 z.n5 := by
        unfold HL hol
        rw [if_pos (show (wf, wt).1 < (wf, wt).2 from hw), ← a4, ← a5, if_neg (show ¬ z.x6 < (wf, wt).2 from h8)]
      have hlen : (HL (sp F G) L (wf, wt)).length = z.n5 := by rw [hl, seg_length]
      refine ⟨⟨fun _ => ⟨h1, by show L ≤ 30000000000; omega⟩, fun _ => k1, fun _ q => ?_, ?_⟩, .inr (.inr ?_)⟩
      · exact absurd (show f27_8 (V27.mk L wf wt M ob F G) = true from q) (by rw [d8]; decide)
      · exact ⟨fun _ => trivial, fun _ => ⟨fun _ => trivial, fun _ => trivial⟩⟩
      · refine ⟨.cells 27 [.int .u64 wf, .int .u64 wt], .row 27 2 L (fun j => [.int .u64 (f27_10 (V27.mk L wf wt M ob F G) j), .int .u64 (f27_11 (V27.mk L wf wt M ob F G) j)]), .cells 27 [.int .u64 (f27_12 (V27.mk L wf wt M ob F G)), .int .u64 wt], sp z.F3_0 z.F3_1, ?_, fun i (hi : i < (HL (sp F G) L (wf, wt)).length) => (gt_of hl.symm i (by omega)).symm⟩
        simp only [f27, Tr.get, d7, d8]
        rw [hlen]
        simp only [f27_16, f27_17, f27_18, f27_19, hz, a1]
        rfl
  · have d7 : f27_7 (V27.mk L wf wt M ob F G) = true := by simp [f27_7, f11_0, hw]
    have q7 : ∀ {p : Prop}, (!f11_0 wf wt) = false → p := fun e => absurd (show f27_7 (V27.mk L wf wt M ob F G) = false from e) (by rw [d7]; decide)
    refine ⟨⟨fun e => q7 e, fun e => q7 e, fun e => q7 e, ?_⟩, .inl ⟨?_, ?_⟩⟩
    · exact ⟨fun _ => trivial, fun _ => ⟨fun _ => trivial, fun _ => trivial⟩⟩
    · simp only [f27, Tr.get, d7]
    · simp [HL, hw]
theorem c27 (v : V27) : fnC d27 ofV27 f27 (A27 v) (H27 v) = some (.need (∀ i, i < v.M → (fun j => [.int .u64 (v.F j), .int .u64 (v.G j)] : Nat → List SV) i = elC (fun j => [.int .u64 (v.F j), .int .u64 (v.G j)] : Nat → List SV) 0 [.int .u64, .int .u64] i) ((f27 v).map (fixF (H27 v)))) := by kernel_rfl
theorem s27n : Sound Try.prog th 27 (fnC d27 ofV27 f27n) := by
  refine fnC_direct (T := th) d27 A27 H27 toV27 (by kernel_rfl) (fun v => by kernel_rfl) ?_ ?_ (fun v _ => by show 1 ≤ 2; decide) (fun v _ n hn _ => ?_)
  · intro l v h
    unfold ofV27 at h
    split at h
    · cases h; rfl
    · cases h
  · intro v hok K w0 ρ w vargs I hr
    obtain ⟨hp, _⟩ := hok
    obtain ⟨ok, hget⟩ := n27 v hp
    have hl : ρ.length = 1 := I.len
    have hro : scpH (HO.ro 27 2 v.M (fun j => [SV.int .u64 (v.F j), SV.int .u64 (v.G j)]) v.ob : HO th.R) := fun _ => rfl
    refine (fnC_out s27 (c27 v) ⟨fun i _ => rfl, (Tr.map_ok _ _).2 ok⟩ I hr).mono ?_
    rintro e w' ⟨ρ', cv, rfl, hp', I', hv⟩
    have eg : (Tr.need (∀ i, i < v.M → (fun j => [.int .u64 (v.F j), .int .u64 (v.G j)] : Nat → List SV) i = elC (fun j => [.int .u64 (v.F j), .int .u64 (v.G j)] : Nat → List SV) 0 [.int .u64, .int .u64] i) ((f27 v).map (fixF (H27 v)))).get = fixF (H27 v) (f27 v).get := Tr.map_get _ _
    rw [eg] at I' hv
    rcases hget with ⟨g1, g2⟩ | ⟨o1, o2, o3, o4, o5, el, g1, g2⟩ | ⟨o1, o2, o4, el, g1, g2⟩
    · rw [g1] at I' hv
      obtain ⟨ρ2, q1, q2, q3⟩ := give_nil (T := th) (t := 27) (sz := 2) (el := fun j => [.int .u64 (gt (HL (sp v.F v.G) v.L (v.wf, v.wt)) j).1, .int .u64 (gt (HL (sp v.F v.G) v.L (v.wf, v.wt)) j).2]) hl hp' I' hv
      refine ⟨ρ2, cv, rfl, q1, ?_, ?_⟩
      · show Inv th K w0 ρ2 [_, HO.row 27 2 (HL (sp v.F v.G) v.L (v.wf, v.wt)).length _] w'
        rw [g2]; exact q2
      · show Rel ρ2 (.slc 1 2 0 (HL (sp v.F v.G) v.L (v.wf, v.wt)).length) cv
        rw [g2]; exact q3
    · rw [g1] at I' hv
      obtain ⟨ρ2, q1, q2, q3⟩ := give_two (T := th) (m := 6) hl hp' I' (by decide) rfl rfl hro (fun _ => rfl) hv
      exact ⟨ρ2, cv, rfl, q1, q2.weak (.cons (.refl _) (.cons (.row fun i hi => by rw [g2 i hi]) .nil)), q3⟩
    · rw [g1] at I' hv
      obtain ⟨ρ2, q1, q2, q3⟩ := give_two (T := th) (m := 3) hl hp' I' (by decide) rfl rfl hro (fun _ => rfl) hv
      exact ⟨ρ2, cv, rfl, q1, q2.weak (.cons (.refl _) (.cons (.row fun i hi => by rw [g2 i hi]) .nil)), q3⟩
  · have hn : n < 1 := hn
    have : n = 0 := by omega
    subst this; rfl
noncomputable def nice27n : List (Nat × CF th.R) := (27, lift (fnC d27 ofV27 f27n)) :: nice24n
theorem nok27n : NiceOk Try.prog th nice27n := ⟨lift_sound s27n, nok24n⟩
end Go.Sx.S

namespace Go.Sx.S
open Go Go.Sx Go.Proofs Go.RowKit
set_option maxRecDepth 100000
structure V37 where
  L : Nat
  at_ : Int
  to_ : Int
  M : Nat
  F : Nat → Int
  G : Nat → Int
def A37 (v : V37) : List SV := [.slc 0 2 0 v.L, .int .u64 v.at_, .int .u64 v.to_]
def H37 (v : V37) : List (HO th.R) := [.row 29 2 v.M (fun j => [.int .u64 (v.F j), .int .u64 (v.G j)])]
def toV37 (v : V37) : List (Vl th.R) := [.n v.L, .i v.at_, .i v.to_, .n v.M, .c v.F, .c v.G]
def ofV37 : List (Vl th.R) → Option V37
  | [.n L, .i at_, .i to_, .n M, .c F, .c G] => some ⟨L, at_, to_, M, F, G⟩
  | _ => none
def d37 : Ft := ⟨[.slc0 0 2, .int .u64, .int .u64], [.rowc 29 [.int .u64, .int .u64]]⟩
structure P37_0 where
  n0 : Nat
  x1 : Int
  N0 : Nat
  F0_0 : Nat → Int
  F0_1 : Nat → Int
structure S37_0 where
  x2 : Int
  x7 : Int
instance : Inhabited S37_0 := ⟨⟨0, 0⟩⟩
def I37_0 (p : P37_0) (s : S37_0) : St th.R := ⟨[some (.slc 0 2 0 p.n0), some (.int .u64 p.x1), some (.int .u64 s.x2), none, none, none, none, some (.int .i64 s.x7), none, none, none, none, none, none, none, none, none, none, none, none, none, none, none, none, none, none, none, none, none, none, none, none, none, none, none, none, none, none, none, none, none, none, none, none, none, none, none, none, none, none, none, none, none, none, none, none, none], [.row 29 2 p.N0 (fun j => [.int .u64 (p.F0_0 j), .int .u64 (p.F0_1 j)])], [], []⟩
def d37_0 : Lp := ⟨⟨57, [(0, .slc0 0 2), (1, .int .u64), (2, .int .u64), (7, .int .i64)], [.rowc 29 [.int .u64, .int .u64]]⟩, [], 1, [], [2], []⟩
def toV37_0 (p : P37_0) (s : S37_0) : List (Vl th.R) := [.n p.n0, .i p.x1, .i s.x2, .i s.x7, .n p.N0, .c p.F0_0, .c p.F0_1]
def ofV37_0 : List (Vl th.R) → Option (P37_0 × S37_0)
  | [.n n0, .i x1, .i x2, .i x7, .n N0, .c F0_0, .c F0_1] => some (⟨n0, x1, N0, F0_0, F0_1⟩, ⟨x2, x7⟩)
  | _ => none
noncomputable def e37_0_0 (p : P37_0) (s : S37_0) : (Bool) := cnd (decide (s.x7 < (↑p.n0 : Int))) false true
noncomputable def e37_0_1 (p : P37_0) (s : S37_0) : (Prop) := ∀ (i : Nat), scpL (0:Nat) ((fun (j : Nat) => [SV.int IntKind.u64 (p.F0_0 j), SV.int IntKind.u64 (p.F0_1 j)]) i) = true
noncomputable def e37_0_2 (p : P37_0) (s : S37_0) : (Prop) := (0 : Int) ≤ s.x7 ∧ s.x7 < (↑p.n0 : Int)
noncomputable def e37_0_3 (p : P37_0) (s : S37_0) : (Prop) := (0:Nat) + s.x7.toNat < p.N0
noncomputable def e37_0_4 (p : P37_0) (s : S37_0) : (Prop) := cnd (decide (p.F0_0 ((0:Nat) + s.x7.toNat) > p.x1)) true false = true → (0 : Int) ≤ s.x7 ∧ s.x7 < (↑p.n0 : Int)
noncomputable def e37_0_5 (p : P37_0) (s : S37_0) : (Prop) := cnd (decide (p.F0_0 ((0:Nat) + s.x7.toNat) > p.x1)) true false = true → (0:Nat) + s.x7.toNat < p.N0
noncomputable def e37_0_6 (p : P37_0) (s : S37_0) : (Prop) := cnd (decide (p.F0_0 ((0:Nat) + s.x7.toNat) > p.x1)) (decide (p.F0_0 ((0:Nat) + s.x7.toNat) < s.x2)) false = true → (0 : Int) ≤ s.x7 ∧ s.x7 < (↑p.n0 : Int)
noncomputable def e37_0_7 (p : P37_0) (s : S37_0) : (Prop) := cnd (decide (p.F0_0 ((0:Nat) + s.x7.toNat) > p.x1)) (decide (p.F0_0 ((0:Nat) + s.x7.toNat) < s.x2)) false = true → (0:Nat) + s.x7.toNat < p.N0
noncomputable def e37_0_8 (p : P37_0) (s : S37_0) : (Prop) := cnd (decide (p.F0_1 ((0:Nat) + s.x7.toNat) > p.x1)) true false = true → (0 : Int) ≤ s.x7 ∧ s.x7 < (↑p.n0 : Int)
noncomputable def e37_0_9 (p : P37_0) (s : S37_0) : (Prop) := cnd (decide (p.F0_1 ((0:Nat) + s.x7.toNat) > p.x1)) true false = true → (0:Nat) + s.x7.toNat < p.N0
noncomputable def e37_0_10 (p : P37_0) (s : S37_0) : (Prop) := cnd (decide (p.F0_1 ((0:Nat) + s.x7.toNat) > p.x1)) (decide (p.F0_1 ((0:Nat) + s.x7.toNat) < cnd (cnd (decide (p.F0_0 ((0:Nat) + s.x7.toNat) > p.x1)) (decide (p.F0_0 ((0:Nat) + s.x7.toNat) < s.x2)) false) (p.F0_0 ((0:Nat) + s.x7.toNat)) s.x2)) false = true → (0 : Int) ≤ s.x7 ∧ s.x7 < (↑p.n0 : Int)
noncomputable def e37_0_11 (p : P37_0) (s : S37_0) : (Prop) := cnd (decide (p.F0_1 ((0:Nat) + s.x7.toNat) > p.x1)) (decide (p.F0_1 ((0:Nat) + s.x7.toNat) < cnd (cnd (decide (p.F0_0 ((0:Nat) + s.x7.toNat) > p.x1)) (decide (p.F0_0 ((0:Nat) + s.x7.toNat) < s.x2)) false) (p.F0_0 ((0:Nat) + s.x7.toNat)) s.x2)) false = true → (0:Nat) + s.x7.toNat < p.N0
noncomputable def e37_0_12 (p : P37_0) (s : S37_0) : (Prop) := (∀ (i : Nat), scpL (0:Nat) ((fun (j : Nat) => [SV.int IntKind.u64 (p.F0_0 j), SV.int IntKind.u64 (p.F0_1 j)]) i) = true) ∧ ∀ (i : Nat), i < p.N0 → (fun (j : Nat) => [SV.int IntKind.u64 (p.F0_0 j), SV.int IntKind.u64 (p.F0_1 j)]) i = elC (fun (j : Nat) => [SV.int IntKind.u64 (p.F0_0 j), SV.int IntKind.u64 (p.F0_1 j)]) (0:Nat) [Ck.int IntKind.u64, Ck.int IntKind.u64] i
noncomputable def e37_0_13 (p : P37_0) (s : S37_0) : (Int) := cnd (cnd (decide (p.F0_1 ((0:Nat) + s.x7.toNat) > p.x1)) (decide (p.F0_1 ((0:Nat) + s.x7.toNat) < cnd (cnd (decide (p.F0_0 ((0:Nat) + s.x7.toNat) > p.x1)) (decide (p.F0_0 ((0:Nat) + s.x7.toNat) < s.x2)) false) (p.F0_0 ((0:Nat) + s.x7.toNat)) s.x2)) false) (p.F0_1 ((0:Nat) + s.x7.toNat)) (cnd (cnd (decide (p.F0_0 ((0:Nat) + s.x7.toNat) > p.x1)) (decide (p.F0_0 ((0:Nat) + s.x7.toNat) < s.x2)) false) (p.F0_0 ((0:Nat) + s.x7.toNat)) s.x2)
noncomputable def e37_0_14 (p : P37_0) (s : S37_0) : (Int) := IntKind.i64.wrap (s.x7 + (1 : Int))
theorem n_e37_0_1 (p : P37_0) (s : S37_0) : e37_0_1 p s := by
  unfold e37_0_1
  first
    | (intros; rfl)
    | (intro i; rfl)
    | (intro i _; rfl)
    | (intro _ i; rfl)
    | (intro _ i _; rfl)
    | (refine ⟨?_, ?_⟩ <;> intro i <;> rfl)
    | (refine ⟨?_, ?_, ?_⟩ <;> intro i <;> rfl)
    | (refine ⟨?_, ?_⟩ <;> intro i _ <;> rfl)
    | (repeat' apply And.intro) <;> first | (intro i; rfl) | (intro i _; rfl) | (intro i h; exact absurd h (Nat.not_lt_zero i)) | (intro i; exact scpL_rowSet (by rfl) (by rfl)) | (intro i; exact scpL_rowEl (by kernel_rfl) _)
    | (intros; (repeat' apply And.intro) <;> intros <;> first | rfl | (exact absurd (by assumption) (Nat.not_lt_zero _)))
    | omega
    | decide
theorem n_e37_0_12 (p : P37_0) (s : S37_0) : e37_0_12 p s := by
  unfold e37_0_12
  first
    | (intros; rfl)
    | (intro i; rfl)
    | (intro i _; rfl)
    | (intro _ i; rfl)
    | (intro _ i _; rfl)
    | (refine ⟨?_, ?_⟩ <;> intro i <;> rfl)
    | (refine ⟨?_, ?_, ?_⟩ <;> intro i <;> rfl)
    | (refine ⟨?_, ?_⟩ <;> intro i _ <;> rfl)
    | (repeat' apply And.intro) <;> first | (intro i; rfl) | (intro i _; rfl) | (intro i h; exact absurd h (Nat.not_lt_zero i)) | (intro i; exact scpL_rowSet (by rfl) (by rfl)) | (intro i; exact scpL_rowEl (by kernel_rfl) _)
    | (intros; (repeat' apply And.intro) <;> intros <;> first | rfl | (exact absurd (by assumption) (Nat.not_lt_zero _)))
    | omega
    | decide
noncomputable def rf37_0 (p : P37_0) (s : S37_0) : Tr (Rs th.R S37_0) := (Tr.ite (e37_0_0 p s) (Tr.need (e37_0_1 p s) (Tr.leaf (Rs.out (Ex.exit ((0:Nat))) (none :: (none :: (List.cons (Option.some (SV.int (IntKind.u64) (s.x2))) (none :: (none :: (none :: (none :: (none :: (none :: (none :: (none :: (none :: (none :: (none :: (none :: (none :: (none :: (none :: (none :: (none :: (none :: (none :: (none :: (none :: (none :: (none :: (none :: (none :: (none :: (none :: (none :: (none :: (none :: (none :: (none :: (none :: (none :: (none :: (none :: (none :: (none :: (none :: (none :: (none :: (none :: (none :: (none :: (none :: (none :: (none :: (none :: (none :: (none :: (none :: (none :: (none :: (none :: []))))))))))))))))))))))))))))))))))))))))))))))))))))))))) (List.cons (HO.row ((29 : Nat)) ((2 : Nat)) (p.N0) (fun j => (List.cons (SV.int (IntKind.u64) (p.F0_0 j)) (List.cons (SV.int (IntKind.u64) (p.F0_1 j)) [])))) [])))) (Tr.need (e37_0_2 p s) (Tr.need (e37_0_3 p s) (Tr.need (e37_0_4 p s) (Tr.need (e37_0_5 p s) (Tr.need (e37_0_6 p s) (Tr.need (e37_0_7 p s) (Tr.need (e37_0_2 p s) (Tr.need (e37_0_3 p s) (Tr.need (e37_0_8 p s) (Tr.need (e37_0_9 p s) (Tr.need (e37_0_10 p s) (Tr.need (e37_0_11 p s) (Tr.need (e37_0_12 p s) (Tr.leaf (Rs.on (S37_0.mk ((e37_0_13 p s)) ((e37_0_14 p s)))))))))))))))))))
noncomputable def r37_0 (p : P37_0) (s : S37_0) : Tr (Rs th.R S37_0) := (Tr.ite (e37_0_0 p s) (Tr.leaf (Rs.out (Ex.exit ((0:Nat))) (none :: (none :: (List.cons (Option.some (SV.int (IntKind.u64) (s.x2))) (none :: (none :: (none :: (none :: (none :: (none :: (none :: (none :: (none :: (none :: (none :: (none :: (none :: (none :: (none :: (none :: (none :: (none :: (none :: (none :: (none :: (none :: (none :: (none :: (none :: (none :: (none :: (none :: (none :: (none :: (none :: (none :: (none :: (none :: (none :: (none :: (none :: (none :: (none :: (none :: (none :: (none :: (none :: (none :: (none :: (none :: (none :: (none :: (none :: (none :: (none :: (none :: (none :: (none :: []))))))))))))))))))))))))))))))))))))))))))))))))))))))))) (List.cons (HO.row ((29 : Nat)) ((2 : Nat)) (p.N0) (fun j => (List.cons (SV.int (IntKind.u64) (p.F0_0 j)) (List.cons (SV.int (IntKind.u64) (p.F0_1 j)) [])))) []))) (Tr.need (e37_0_2 p s) (Tr.need (e37_0_3 p s) (Tr.need (e37_0_4 p s) (Tr.need (e37_0_5 p s) (Tr.need (e37_0_6 p s) (Tr.need (e37_0_7 p s) (Tr.need (e37_0_2 p s) (Tr.need (e37_0_3 p s) (Tr.need (e37_0_8 p s) (Tr.need (e37_0_9 p s) (Tr.need (e37_0_10 p s) (Tr.need (e37_0_11 p s) (Tr.leaf (Rs.on (S37_0.mk ((e37_0_13 p s)) ((e37_0_14 p s))))))))))))))))))
noncomputable def E37_0 : St th.R → Out th := evCode th Try.prog (auto th Try.prog nice36n [] 20) (autoH [] [] [] [] : Hints th) (lpAt Try.prog 37 0)
theorem B37_0 : CodeSound th Try.prog (lpAt Try.prog 37 0) E37_0 := evCode_sound (T := th) (P := Try.prog) (tbl := (auto th Try.prog nice36n [] 20)) (auto_sound (nice := nice36n) (us := []) nok36n 20) (autoH [] [] [] [] : Hints th) _ (LoopsOk_mem (fun _ => rfl) _ fun b hb L hL => by cases hL)
noncomputable def L37_0 : St th.R → Out th := loopL d37_0 ofV37_0 r37_0
theorem h1_37_0 (p : P37_0) (s : S37_0) : bld d37_0.tm (toV37_0 p s) = some (I37_0 p s) := by kernel_rfl
theorem h2_37_0 (l : List (Vl th.R)) (p : P37_0) (s : S37_0) (h : ofV37_0 l = some (p, s)) : l = toV37_0 p s := by
  unfold ofV37_0 at h
  split at h
  · cases h; rfl
  · cases h
theorem h3_37_0 (p : P37_0) (s : S37_0) : cvE d37_0 (E37_0 (I37_0 p s)) = some ((rf37_0 p s).map (Rs.map (toV37_0 p))) := by kernel_rfl
theorem h3g_37_0 (p : P37_0) (s : S37_0) : (rf37_0 p s).get = (r37_0 p s).get := by kernel_rfl
theorem h4_37_0 (p : P37_0) (s s1 : S37_0) : outH d37_0.dirt d37_0.n0 (r37_0 p s) = repH (maskH d37_0.dirt 0 d37_0.n0 (I37_0 p s1).heap) (r37_0 p s) := by kernel_rfl
theorem ls37_0 : CodeSound th Try.prog (.loop (lpAt Try.prog 37 0)) L37_0 := loopL_sound B37_0 d37_0 I37_0 toV37_0 (by kernel_rfl) h1_37_0 h2_37_0
  (fun p s => ⟨(rf37_0 p s).map (Rs.map (toV37_0 p)), h3_37_0 p s, fun h => by
    rw [Tr.map_ok]
    unfold r37_0 at h; unfold rf37_0
    simp only [Tr.ok, n_e37_0_1, n_e37_0_12, true_and, and_true, forall_const, implies_true] at h ⊢
    try exact h, by rw [Tr.map_get, h3g_37_0 p s]⟩) h4_37_0
theorem ok37 : LoopsOk th Try.prog (autoH [(2, L37_0)] [] [] [] : Hints th) (bodyOf Try.prog 37) := autoH_ok (bs := [lpAt Try.prog 37 0]) (by kernel_rfl) fun b hb L hL => by
  simp only [List.mem_cons, List.not_mem_nil, or_false] at hb
  rcases hb with rfl
  · have e : lookL [(2, L37_0)] (firstReg (lpAt Try.prog 37 0)) = some L37_0 := by kernel_rfl
    rw [e] at hL; cases hL
    exact ls37_0
noncomputable def f37_0 (v : V37) : (Prop) := ∀ (i : Nat), i < v.M → (fun (j : Nat) => [SV.int IntKind.u64 (v.F j), SV.int IntKind.u64 (v.G j)]) i = elC (fun (j : Nat) => [SV.int IntKind.u64 (v.F j), SV.int IntKind.u64 (v.G j)]) (0:Nat) [Ck.int IntKind.u64, Ck.int IntKind.u64] i
noncomputable def f37_1 (v : V37) : (Prop) := LT (r37_0 (P37_0.mk v.L v.at_ v.M v.F v.G)) (S37_0.mk v.to_ (0 : Int))
noncomputable def f37z0 (v : V37) : S37_0 := lastS (r37_0 (P37_0.mk v.L v.at_ v.M v.F v.G)) (S37_0.mk v.to_ (0 : Int))
noncomputable def f37_2 (v : V37) : (Int) := (f37z0 v).x2
theorem n_f37_0 (v : V37) : f37_0 v := by
  unfold f37_0
  first
    | (intros; rfl)
    | (intro i; rfl)
    | (intro i _; rfl)
    | (intro _ i; rfl)
    | (intro _ i _; rfl)
    | (refine ⟨?_, ?_⟩ <;> intro i <;> rfl)
    | (refine ⟨?_, ?_, ?_⟩ <;> intro i <;> rfl)
    | (refine ⟨?_, ?_⟩ <;> intro i _ <;> rfl)
    | (repeat' apply And.intro) <;> first | (intro i; rfl) | (intro i _; rfl) | (intro i h; exact absurd h (Nat.not_lt_zero i)) | (intro i; exact scpL_rowSet (by rfl) (by rfl)) | (intro i; exact scpL_rowEl (by kernel_rfl) _)
    | (intros; (repeat' apply And.intro) <;> intros <;> first | rfl | (exact absurd (by assumption) (Nat.not_lt_zero _)))
    | omega
    | decide
noncomputable def ff37 (v : V37) : Tr (Fin th.R) := (Tr.need (f37_0 v) (Tr.need (f37_1 v) (Tr.leaf (Prod.mk (SV.int (IntKind.u64) (f37_2 v)) (Prod.mk (List.cons (HO.row ((29 : Nat)) ((2 : Nat)) (v.M) (fun j => (List.cons (SV.int (IntKind.u64) (v.F j)) (List.cons (SV.int (IntKind.u64) (v.G j)) [])))) []) [])))))
noncomputable def f37 (v : V37) : Tr (Fin th.R) := (Tr.need (f37_1 v) (Tr.leaf (Prod.mk (SV.int (IntKind.u64) (f37_2 v)) (Prod.mk (List.cons (HO.row ((29 : Nat)) ((2 : Nat)) (v.M) (fun j => (List.cons (SV.int (IntKind.u64) (v.F j)) (List.cons (SV.int (IntKind.u64) (v.G j)) [])))) []) ([])))))
noncomputable def C37 : CF th.R := fnC d37 ofV37 (f37 )
theorem q37 (v : V37) : (evFn th Try.prog (auto th Try.prog nice36n [] 20) (autoH [(2, L37_0)] [] [] [] : Hints th) 37) (A37 v) (H37 v) = some (ff37 v) := by kernel_rfl
theorem qg37 (v : V37) : ((ff37 v).map (setD [])).get = (f37 v).get := by kernel_rfl
theorem qd37 (v : V37) : allD 1 [] (ff37 v) = true := by kernel_rfl
theorem s37 : Sound Try.prog th 37 (C37 ) := fnC_sound (evFn_sound' (T := th) (P := Try.prog) (tbl := (auto th Try.prog nice36n [] 20)) (auto_sound (nice := nice36n) (us := []) nok36n 20) (H := (autoH [(2, L37_0)] [] [] [] : Hints th)) (k := 37) (fnLoops ok37)) d37 A37 H37 toV37 (by kernel_rfl) (fun v => by kernel_rfl)
  (fun l v h => by
    unfold ofV37 at h
    split at h
    · cases h; rfl
    · cases h)
  [] (fun v => ⟨ff37 v, q37 v, fun h => by
    unfold f37 at h; unfold ff37
    simp only [Tr.ok, n_f37_0, true_and, and_true, forall_const, implies_true] at h ⊢
    try exact h, qg37 v, qd37 v⟩)
theorem qdd37 (v : V37) : (f37 v).get.2.2 = [] := by
  rw [← qg37, Tr.map_get]; rfl
end Go.Sx.S

namespace Go.Sx.S
open Go Go.Sx Go.Proofs Go.RowKit
set_option maxRecDepth 100000
structure V38 where
  L : Nat
  at_ : Int
  M : Nat
  F : Nat → Int
  G : Nat → Int
def A38 (v : V38) : List SV := [.slc 0 2 0 v.L, .int .u64 v.at_]
def H38 (v : V38) : List (HO th.R) := [.row 29 2 v.M (fun j => [.int .u64 (v.F j), .int .u64 (v.G j)])]
def toV38 (v : V38) : List (Vl th.R) := [.n v.L, .i v.at_, .n v.M, .c v.F, .c v.G]
def ofV38 : List (Vl th.R) → Option V38
  | [.n L, .i at_, .n M, .c F, .c G] => some ⟨L, at_, M, F, G⟩
  | _ => none
def d38 : Ft := ⟨[.slc0 0 2, .int .u64], [.rowc 29 [.int .u64, .int .u64]]⟩
structure P38_0 where
  n0 : Nat
  x1 : Int
  b4 : Bool
  N0 : Nat
  F0_0 : Nat → Int
  F0_1 : Nat → Int
structure S38_0 where
  x5 : Int
instance : Inhabited S38_0 := ⟨⟨0⟩⟩
def I38_0 (p : P38_0) (s : S38_0) : St th.R := ⟨[some (.slc 0 2 0 p.n0), some (.int .u64 p.x1), none, none, some (.bool p.b4), some (.int .i64 s.x5), none, none, none, none, none, none, none, none, none, none, none, none], [.row 29 2 p.N0 (fun j => [.int .u64 (p.F0_0 j), .int .u64 (p.F0_1 j)])], [], []⟩
def d38_0 : Lp := ⟨⟨18, [(0, .slc0 0 2), (1, .int .u64), (4, .bool), (5, .int .i64)], [.rowc 29 [.int .u64, .int .u64]]⟩, [], 1, [], [4], []⟩
def toV38_0 (p : P38_0) (s : S38_0) : List (Vl th.R) := [.n p.n0, .i p.x1, .b p.b4, .i s.x5, .n p.N0, .c p.F0_0, .c p.F0_1]
def ofV38_0 : List (Vl th.R) → Option (P38_0 × S38_0)
  | [.n n0, .i x1, .b b4, .i x5, .n N0, .c F0_0, .c F0_1] => some (⟨n0, x1, b4, N0, F0_0, F0_1⟩, ⟨x5⟩)
  | _ => none
noncomputable def e38_0_0 (p : P38_0) (s : S38_0) : (Bool) := cnd (decide (s.x5 < (↑p.n0 : Int))) false true
noncomputable def e38_0_1 (p : P38_0) (s : S38_0) : (Prop) := ∀ (i : Nat), scpL (0:Nat) ((fun (j : Nat) => [SV.int IntKind.u64 (p.F0_0 j), SV.int IntKind.u64 (p.F0_1 j)]) i) = true
noncomputable def e38_0_2 (p : P38_0) (s : S38_0) : (Prop) := (0 : Int) ≤ s.x5 ∧ s.x5 < (↑p.n0 : Int)
noncomputable def e38_0_3 (p : P38_0) (s : S38_0) : (Prop) := (0:Nat) + s.x5.toNat < p.N0
noncomputable def e38_0_4 (p : P38_0) (s : S38_0) : (Bool) := f18_0 (p.F0_0 ((0:Nat) + s.x5.toNat)) (p.F0_1 ((0:Nat) + s.x5.toNat)) p.x1
noncomputable def e38_0_5 (p : P38_0) (s : S38_0) : (Prop) := (∀ (i : Nat), scpL (0:Nat) ((fun (j : Nat) => [SV.int IntKind.u64 (p.F0_0 j), SV.int IntKind.u64 (p.F0_1 j)]) i) = true) ∧ ∀ (i : Nat), i < p.N0 → (fun (j : Nat) => [SV.int IntKind.u64 (p.F0_0 j), SV.int IntKind.u64 (p.F0_1 j)]) i = elC (fun (j : Nat) => [SV.int IntKind.u64 (p.F0_0 j), SV.int IntKind.u64 (p.F0_1 j)]) (0:Nat) [Ck.int IntKind.u64, Ck.int IntKind.u64] i
noncomputable def e38_0_6 (p : P38_0) (s : S38_0) : (Int) := IntKind.i64.wrap (s.x5 + (1 : Int))
theorem n_e38_0_1 (p : P38_0) (s : S38_0) : e38_0_1 p s := by
  unfold e38_0_1
  first
    | (intros; rfl)
    | (intro i; rfl)
    | (intro i _; rfl)
    | (intro _ i; rfl)
    | (intro _ i _; rfl)
    | (refine ⟨?_, ?_⟩ <;> intro i <;> rfl)
    | (refine ⟨?_, ?_, ?_⟩ <;> intro i <;> rfl)
    | (refine ⟨?_, ?_⟩ <;> intro i _ <;> rfl)
    | (repeat' apply And.intro) <;> first | (intro i; rfl) | (intro i _; rfl) | (intro i h; exact absurd h (Nat.not_lt_zero i)) | (intro i; exact scpL_rowSet (by rfl) (by rfl)) | (intro i; exact scpL_rowEl (by kernel_rfl) _)
    | (intros; (repeat' apply And.intro) <;> intros <;> first | rfl | (exact absurd (by assumption) (Nat.not_lt_zero _)))
    | omega
    | decide
theorem n_e38_0_5 (p : P38_0) (s : S38_0) : e38_0_5 p s := by
  unfold e38_0_5
  first
    | (intros; rfl)
    | (intro i; rfl)
    | (intro i _; rfl)
    | (intro _ i; rfl)
    | (intro _ i _; rfl)
    | (refine ⟨?_, ?_⟩ <;> intro i <;> rfl)
    | (refine ⟨?_, ?_, ?_⟩ <;> intro i <;> rfl)
    | (refine ⟨?_, ?_⟩ <;> intro i _ <;> rfl)
    | (repeat' apply And.intro) <;> first | (intro i; rfl) | (intro i _; rfl) | (intro i h; exact absurd h (Nat.not_lt_zero i)) | (intro i; exact scpL_rowSet (by rfl) (by rfl)) | (intro i; exact scpL_rowEl (by kernel_rfl) _)
    | (intros; (repeat' apply And.intro) <;> intros <;> first | rfl | (exact absurd (by assumption) (Nat.not_lt_zero _)))
    | omega
    | decide
noncomputable def rf38_0 (p : P38_0) (s : S38_0) : Tr (Rs th.R S38_0) := (Tr.ite (e38_0_0 p s) (Tr.need (e38_0_1 p s) (Tr.leaf (Rs.out (Ex.exit ((0:Nat))) (none :: (none :: (none :: (none :: (List.cons (Option.some (SV.bool (p.b4))) (none :: (none :: (none :: (none :: (none :: (none :: (none :: (none :: (none :: (none :: (none :: (none :: (none :: [])))))))))))))))))) (List.cons (HO.row ((29 : Nat)) ((2 : Nat)) (p.N0) (fun j => (List.cons (SV.int (IntKind.u64) (p.F0_0 j)) (List.cons (SV.int (IntKind.u64) (p.F0_1 j)) [])))) [])))) (Tr.need (e38_0_2 p s) (Tr.need (e38_0_3 p s) (Tr.ite (e38_0_4 p s) (Tr.need (e38_0_1 p s) (Tr.leaf (Rs.out (Ex.ret) (none :: (none :: (none :: (none :: (List.cons (Option.some (SV.bool (true))) (none :: (none :: (none :: (none :: (none :: (none :: (none :: (none :: (none :: (none :: (none :: (none :: (none :: [])))))))))))))))))) (List.cons (HO.row ((29 : Nat)) ((2 : Nat)) (p.N0) (fun j => (List.cons (SV.int (IntKind.u64) (p.F0_0 j)) (List.cons (SV.int (IntKind.u64) (p.F0_1 j)) [])))) [])))) (Tr.need (e38_0_5 p s) (Tr.leaf (Rs.on (S38_0.mk ((e38_0_6 p s))))))))))
noncomputable def r38_0 (p : P38_0) (s : S38_0) : Tr (Rs th.R S38_0) := (Tr.ite (e38_0_0 p s) (Tr.leaf (Rs.out (Ex.exit ((0:Nat))) (none :: (none :: (none :: (none :: (List.cons (Option.some (SV.bool (p.b4))) (none :: (none :: (none :: (none :: (none :: (none :: (none :: (none :: (none :: (none :: (none :: (none :: (none :: [])))))))))))))))))) (List.cons (HO.row ((29 : Nat)) ((2 : Nat)) (p.N0) (fun j => (List.cons (SV.int (IntKind.u64) (p.F0_0 j)) (List.cons (SV.int (IntKind.u64) (p.F0_1 j)) [])))) []))) (Tr.need (e38_0_2 p s) (Tr.need (e38_0_3 p s) (Tr.ite (e38_0_4 p s) (Tr.leaf (Rs.out (Ex.ret) (none :: (none :: (none :: (none :: (List.cons (Option.some (SV.bool (true))) (none :: (none :: (none :: (none :: (none :: (none :: (none :: (none :: (none :: (none :: (none :: (none :: (none :: [])))))))))))))))))) (List.cons (HO.row ((29 : Nat)) ((2 : Nat)) (p.N0) (fun j => (List.cons (SV.int (IntKind.u64) (p.F0_0 j)) (List.cons (SV.int (IntKind.u64) (p.F0_1 j)) [])))) []))) (Tr.leaf (Rs.on (S38_0.mk ((e38_0_6 p s)))))))))
noncomputable def E38_0 : St th.R → Out th := evCode th Try.prog (auto th Try.prog nice36n [] 20) (autoH [] [] [] [] : Hints th) (lpAt Try.prog 38 0)
theorem B38_0 : CodeSound th Try.prog (lpAt Try.prog 38 0) E38_0 := evCode_sound (T := th) (P := Try.prog) (tbl := (auto th Try.prog nice36n [] 20)) (auto_sound (nice := nice36n) (us := []) nok36n 20) (autoH [] [] [] [] : Hints th) _ (LoopsOk_mem (fun _ => rfl) _ fun b hb L hL => by cases hL)
noncomputable def L38_0 : St th.R → Out th := loopL d38_0 ofV38_0 r38_0
theorem h1_38_0 (p : P38_0) (s : S38_0) : bld d38_0.tm (toV38_0 p s) = some (I38_0 p s) := by kernel_rfl
theorem h2_38_0 (l : List (Vl th.R)) (p : P38_0) (s : S38_0) (h : ofV38_0 l = some (p, s)) : l = toV38_0 p s := by
  unfold ofV38_0 at h
  split at h
  · cases h; rfl
  · cases h
theorem h3_38_0 (p : P38_0) (s : S38_0) : cvE d38_0 (E38_0 (I38_0 p s)) = some ((rf38_0 p s).map (Rs.map (toV38_0 p))) := by kernel_rfl
theorem h3g_38_0 (p : P38_0) (s : S38_0) : (rf38_0 p s).get = (r38_0 p s).get := by kernel_rfl
theorem h4_38_0 (p : P38_0) (s s1 : S38_0) : outH d38_0.dirt d38_0.n0 (r38_0 p s) = repH (maskH d38_0.dirt 0 d38_0.n0 (I38_0 p s1).heap) (r38_0 p s) := by kernel_rfl
theorem ls38_0 : CodeSound th Try.prog (.loop (lpAt Try.prog 38 0)) L38_0 := loopL_sound B38_0 d38_0 I38_0 toV38_0 (by kernel_rfl) h1_38_0 h2_38_0
  (fun p s => ⟨(rf38_0 p s).map (Rs.map (toV38_0 p)), h3_38_0 p s, fun h => by
    rw [Tr.map_ok]
    unfold r38_0 at h; unfold rf38_0
    simp only [Tr.ok, n_e38_0_1, n_e38_0_5, true_and, and_true, forall_const, implies_true] at h ⊢
    try exact h, by rw [Tr.map_get, h3g_38_0 p s]⟩) h4_38_0
theorem ok38 : LoopsOk th Try.prog (autoH [(2, L38_0)] [] [] [] : Hints th) (bodyOf Try.prog 38) := autoH_ok (bs := [lpAt Try.prog 38 0]) (by kernel_rfl) fun b hb L hL => by
  simp only [List.mem_cons, List.not_mem_nil, or_false] at hb
  rcases hb with rfl
  · have e : lookL [(2, L38_0)] (firstReg (lpAt Try.prog 38 0)) = some L38_0 := by kernel_rfl
    rw [e] at hL; cases hL
    exact ls38_0
noncomputable def f38_0 (v : V38) : (Prop) := ∀ (i : Nat), i < v.M → (fun (j : Nat) => [SV.int IntKind.u64 (v.F j), SV.int IntKind.u64 (v.G j)]) i = elC (fun (j : Nat) => [SV.int IntKind.u64 (v.F j), SV.int IntKind.u64 (v.G j)]) (0:Nat) [Ck.int IntKind.u64, Ck.int IntKind.u64] i
noncomputable def f38_1 (v : V38) : (Prop) := LT (r38_0 (P38_0.mk v.L v.at_ false v.M v.F v.G)) (S38_0.mk (0 : Int))
noncomputable def f38z0 (v : V38) : S38_0 := lastS (r38_0 (P38_0.mk v.L v.at_ false v.M v.F v.G)) (S38_0.mk (0 : Int))
noncomputable def f38_2 (v : V38) : (Bool) := cnd (cnd (e38_0_0 (P38_0.mk v.L v.at_ false v.M v.F v.G) (f38z0 v)) false true) true false
theorem n_f38_0 (v : V38) : f38_0 v := by
  unfold f38_0
  first
    | (intros; rfl)
    | (intro i; rfl)
    | (intro i _; rfl)
    | (intro _ i; rfl)
    | (intro _ i _; rfl)
    | (refine ⟨?_, ?_⟩ <;> intro i <;> rfl)
    | (refine ⟨?_, ?_, ?_⟩ <;> intro i <;> rfl)
    | (refine ⟨?_, ?_⟩ <;> intro i _ <;> rfl)
    | (repeat' apply And.intro) <;> first | (intro i; rfl) | (intro i _; rfl) | (intro i h; exact absurd h (Nat.not_lt_zero i)) | (intro i; exact scpL_rowSet (by rfl) (by rfl)) | (intro i; exact scpL_rowEl (by kernel_rfl) _)
    | (intros; (repeat' apply And.intro) <;> intros <;> first | rfl | (exact absurd (by assumption) (Nat.not_lt_zero _)))
    | omega
    | decide
noncomputable def ff38 (v : V38) : Tr (Fin th.R) := (Tr.need (f38_0 v) (Tr.need (f38_1 v) (Tr.leaf (Prod.mk (SV.bool (f38_2 v)) (Prod.mk (List.cons (HO.row ((29 : Nat)) ((2 : Nat)) (v.M) (fun j => (List.cons (SV.int (IntKind.u64) (v.F j)) (List.cons (SV.int (IntKind.u64) (v.G j)) [])))) []) [])))))
noncomputable def f38 (v : V38) : Tr (Fin th.R) := (Tr.need (f38_1 v) (Tr.leaf (Prod.mk (SV.bool (f38_2 v)) (Prod.mk (List.cons (HO.row ((29 : Nat)) ((2 : Nat)) (v.M) (fun j => (List.cons (SV.int (IntKind.u64) (v.F j)) (List.cons (SV.int (IntKind.u64) (v.G j)) [])))) []) ([])))))
noncomputable def C38 : CF th.R := fnC d38 ofV38 (f38 )
theorem q38 (v : V38) : (evFn th Try.prog (auto th Try.prog nice36n [] 20) (autoH [(2, L38_0)] [] [] [] : Hints th) 38) (A38 v) (H38 v) = some (ff38 v) := by kernel_rfl
theorem qg38 (v : V38) : ((ff38 v).map (setD [])).get = (f38 v).get := by kernel_rfl
theorem qd38 (v : V38) : allD 1 [] (ff38 v) = true := by kernel_rfl
theorem s38 : Sound Try.prog th 38 (C38 ) := fnC_sound (evFn_sound' (T := th) (P := Try.prog) (tbl := (auto th Try.prog nice36n [] 20)) (auto_sound (nice := nice36n) (us := []) nok36n 20) (H := (autoH [(2, L38_0)] [] [] [] : Hints th)) (k := 38) (fnLoops ok38)) d38 A38 H38 toV38 (by kernel_rfl) (fun v => by kernel_rfl)
  (fun l v h => by
    unfold ofV38 at h
    split at h
    · cases h; rfl
    · cases h)
  [] (fun v => ⟨ff38 v, q38 v, fun h => by
    unfold f38 at h; unfold ff38
    simp only [Tr.ok, n_f38_0, true_and, and_true, forall_const, implies_true] at h ⊢
    try exact h, qg38 v, qd38 v⟩)
theorem qdd38 (v : V38) : (f38 v).get.2.2 = [] := by
  rw [← qg38, Tr.map_get]; rfl
end Go.Sx.S

section
namespace Go.Sx.So
/-- The least end or beginning above an address, so far. -/
def nst1 (a t x : Int) : Int := if a < x ∧ x < t then x else t
def nst (a : Int) (t : Int) (x : Sp) : Int := nst1 a (nst1 a t x.1) x.2
def nx (l : List Sp) (a t : Int) : Int := l.foldl (nst a) t
theorem nx_snoc (l : List Sp) (x : Sp) (a t : Int) : nx (l ++ [x]) a t = nst a (nx l a t) x := by simp [nx, List.foldl_append]
structure NI (l : List Sp) (a t n : Int) : Prop where
  lo : a < n
  hi : n ≤ t
  no : ∀ x, x ∈ l → ¬ (a < x.1 ∧ x.1 < n) ∧ ¬ (a < x.2 ∧ x.2 < n)
  or_ : n = t ∨ ∃ x, x ∈ l ∧ (n = x.1 ∨ n = x.2)
theorem NI.step {l : List Sp} {a t n : Int} (h : NI l a t n) (x : Sp) : NI (l ++ [x]) a t (nst a n x) := by
  obtain ⟨h1, h2, h3, h4⟩ := h
  have old : ∀ m, m ≤ n → ∀ y, y ∈ l → ¬ (a < y.1 ∧ y.1 < m) ∧ ¬ (a < y.2 ∧ y.2 < m) := fun m hm y hy => by
    have := h3 y hy
    omega
  have or' : ∀ m, (m = n ∨ m = x.1 ∨ m = x.2) → m = t ∨ ∃ y, y ∈ l ++ [x] ∧ (m = y.1 ∨ m = y.2) := fun m hm => by
    rcases hm with rfl | hm
    · rcases h4 with q | ⟨y, hy, q⟩
      · exact .inl q
      · exact .inr ⟨y, by simp [hy], q⟩
    · exact .inr ⟨x, by simp, hm⟩
  have fin : ∀ m, a < m → m ≤ n → ¬ (a < x.1 ∧ x.1 < m) → ¬ (a < x.2 ∧ x.2 < m) → (m = n ∨ m = x.1 ∨ m = x.2) → NI (l ++ [x]) a t m := fun m m1 m2 m3 m4 m5 => by
    refine ⟨m1, by omega, fun y hy => ?_, or' m m5⟩
    rcases List.mem_append.1 hy with hy | hy
    · exact old m m2 y hy
    · cases List.mem_singleton.1 hy; exact ⟨m3, m4⟩
  unfold nst nst1
  by_cases c1 : a < x.1 ∧ x.1 < n
  · rw [if_pos c1]
    by_cases c2 : a < x.2 ∧ x.2 < x.1
    · rw [if_pos c2]; exact fin _ (by omega) (by omega) (by omega) (by omega) (by omega)
    · rw [if_neg c2]; exact fin _ (by omega) (by omega) (by omega) (by omega) (by omega)
  · rw [if_neg c1]
    by_cases c2 : a < x.2 ∧ x.2 < n
    · rw [if_pos c2]; exact fin _ (by omega) (by omega) (by omega) (by omega) (by omega)
    · rw [if_neg c2]; exact fin _ (by omega) (by omega) (by omega) (by omega) (by omega)
theorem NI.zero {a t : Int} (h : a < t) : NI [] a t t := ⟨h, Int.le_refl _, (fun _ h => by cases h), .inl rfl⟩
theorem nx_spec {E : Nat → Sp} {a t : Int} (h : a < t) : ∀ n, NI (seg E 0 n) a t (nx (seg E 0 n) a t)
  | 0 => NI.zero h
  | n + 1 => by rw [seg_succ, nx_snoc]; exact (nx_spec h n).step _
/-- One more stretch of the sweep. -/
def rst (l : List Sp) (b : Int) (out : List Sp) (a : Int) : List Sp :=
  if Hs l a then out else match out.getLast? with
    | some y => if y.2 = a then out.dropLast ++ [(y.1, nx l a b)] else out ++ [(a, nx l a b)]
    | none => [(a, nx l a b)]
theorem rst_snoc (l : List Sp) (b : Int) (v : List Sp) (y : Sp) (a : Int) : rst l b (v ++ [y]) a = if Hs l a then v ++ [y] else if y.2 = a then v ++ [(y.1, nx l a b)] else v ++ [y] ++ [(a, nx l a b)] := by
  simp [rst]
structure RI (w : Sp) (l out : List Sp) (t : Int) : Prop where
  right : ∀ x, x ∈ out → x.1 < x.2
  rise : out.Pairwise fun x y => x.2 < y.1
  last : ∀ x, x ∈ out → x.2 ≤ t
  cov : ∀ a, Hs out a ↔ w.1 ≤ a ∧ a < t ∧ ¬ Hs l a
  lo : w.1 ≤ t
  hi : t ≤ w.2
  ends : ∀ x, x ∈ out → x.2 = w.2 ∨ ∃ y, y ∈ l ∧ (x.2 = y.1 ∨ x.2 = y.2)
theorem RI.zero {w : Sp} {l : List Sp} (h : w.1 < w.2) : RI w l [] w.1 :=
  ⟨(fun _ h => by cases h), List.Pairwise.nil, (fun _ h => by cases h), fun a => ⟨fun h => absurd h Hs_nil, fun h => by omega⟩, Int.le_refl _, by omega, fun _ h => by cases h⟩
theorem RI.step {w : Sp} {l out : List Sp} {t : Int} (h : RI w l out t) (ht : t < w.2) {n : Int} (hn : NI l t w.2 n) (en : n = nx l t w.2) : RI w l (rst l w.2 out t) n := by
  obtain ⟨n1, n2, n3, n4⟩ := hn
  have same : ∀ a, t ≤ a → a < n → (Hs l a ↔ Hs l t) := fun a h1 h2 => by
    constructor
    · rintro ⟨x, hx, q⟩
      exact ⟨x, hx, by have := n3 x hx; omega⟩
    · rintro ⟨x, hx, q⟩
      exact ⟨x, hx, by have := n3 x hx; omega⟩
  have lo := h.lo
  have ends : ∀ x, x ∈ out → x.2 = w.2 ∨ ∃ y, y ∈ l ∧ (x.2 = y.1 ∨ x.2 = y.2) := h.ends
  have add : ¬ Hs l t → ∀ v y1, (∀ x, x ∈ v → x.1 < x.2) → v.Pairwise (fun x y => x.2 < y.1) → (∀ x, x ∈ v → x.2 < y1) → y1 ≤ t → (∀ a, Hs v a ∨ (y1 ≤ a ∧ a < t) ↔ w.1 ≤ a ∧ a < t ∧ ¬ Hs l a) →
      (∀ x, x ∈ v → x.2 = w.2 ∨ ∃ y, y ∈ l ∧ (x.2 = y.1 ∨ x.2 = y.2)) → RI w l (v ++ [(y1, n)]) n := fun hh v y1 r1 r2 r3 r4 r5 r6 => by
    refine ⟨?_, ?_, ?_, ?_, by omega, n2, ?_⟩
    · intro x hx
      rcases List.mem_append.1 hx with hx | hx
      · exact r1 x hx
      · cases List.mem_singleton.1 hx; show y1 < n; omega
    · refine List.pairwise_append.2 ⟨r2, List.pairwise_singleton _ _, fun a ha b hb => ?_⟩
      cases List.mem_singleton.1 hb
      exact r3 a ha
    · intro x hx
      rcases List.mem_append.1 hx with hx | hx
      · have := r3 x hx; omega
      · cases List.mem_singleton.1 hx; exact Int.le_refl _
    · intro a
      rw [Hs_snoc]
      show _ ∨ (y1 ≤ a ∧ a < n) ↔ _
      constructor
      · intro q
        by_cases ha : a < t
        · have := (r5 a).1 (by rcases q with q | q; exact .inl q; exact .inr ⟨q.1, ha⟩)
          exact ⟨this.1, by omega, this.2.2⟩
        · rcases q with ⟨x, hx, q⟩ | q
          · have := r3 x hx; omega
          · exact ⟨by omega, q.2, fun k => hh ((same a (by omega) q.2).1 k)⟩
      · rintro ⟨q1, q2, q3⟩
        by_cases ha : a < t
        · rcases (r5 a).2 ⟨q1, ha, q3⟩ with q | q
          · exact .inl q
          · exact .inr ⟨q.1, q2⟩
        · exact .inr ⟨by omega, q2⟩
    · intro x hx
      rcases List.mem_append.1 hx with hx | hx
      · exact r6 x hx
      · cases List.mem_singleton.1 hx
        rcases n4 with q | ⟨y, hy, q⟩
        · exact .inl q
        · exact .inr ⟨y, hy, q⟩
  by_cases hh : Hs l t
  · have e : rst l w.2 out t = out := by unfold rst; rw [if_pos hh]
    rw [e]
    refine ⟨h.right, h.rise, fun x hx => by have := h.last x hx; omega, fun a => ?_, by omega, n2, h.ends⟩
    rw [h.cov a]
    constructor
    · rintro ⟨q1, q2, q3⟩; exact ⟨q1, by omega, q3⟩
    · rintro ⟨q1, q2, q3⟩
      refine ⟨q1, ?_, q3⟩
      by_cases ha : a < t
      · exact ha
      · exact absurd ((same a (by omega) q2).2 hh) q3
  · rcases snoc_cases out with rfl | ⟨v, y, rfl⟩
    · have e : rst l w.2 [] t = [] ++ [(t, n)] := by rw [en]; simp [rst, hh]
      rw [e]
      exact add hh [] t (fun _ h => by cases h) List.Pairwise.nil (fun _ h => by cases h) (Int.le_refl _) (fun a => by
        rw [← h.cov a]; exact ⟨fun q => by rcases q with q | q; exact q; omega, .inl⟩) (fun _ h => by cases h)
    · have hy := h.right y (by simp)
      have hr := List.pairwise_append.1 h.rise
      have hvy : ∀ x, x ∈ v → x.2 < y.1 := fun x hx => hr.2.2 x hx y (by simp)
      rw [rst_snoc, if_neg hh, ← en]
      have hlast := h.last y (by simp)
      by_cases hc : y.2 = t
      · rw [if_pos hc]
        refine add hh v y.1 (fun x hx => h.right x (by simp [hx])) hr.1 hvy (by omega) (fun a => ?_) (fun x hx => h.ends x (by simp [hx]))
        rw [← h.cov a, Hs_snoc, hc]
      · rw [if_neg hc]
        refine add hh (v ++ [y]) t h.right h.rise (fun x hx => ?_) (Int.le_refl _) (fun a => ?_) h.ends
        · rcases List.mem_append.1 hx with hx | hx
          · have := hvy x hx; omega
          · cases List.mem_singleton.1 hx; omega
        · rw [← h.cov a]
          exact ⟨fun q => by rcases q with q | q; exact q; omega, .inl⟩
theorem RI.ris {w : Sp} {l out : List Sp} (h : RI w l out w.2) : Ris out fun a => w.1 ≤ a ∧ a < w.2 ∧ ¬ Hs l a := ⟨h.right, h.rise, h.cov⟩
/-- Different ones out of a list are no more than it has. -/
theorem nodup_le : ∀ {l m : List Int}, l.Nodup → (∀ x, x ∈ l → x ∈ m) → l.length ≤ m.length
  | [], _, _, _ => Nat.zero_le _
  | x :: l, m, hn, hs => by
    have hx := hs x List.mem_cons_self
    have h := nodup_le (l := l) (m := m.erase x) (List.nodup_cons.1 hn).2 fun y hy => by
      have hne : y ≠ x := fun e => (List.nodup_cons.1 hn).1 (e ▸ hy)
      exact (List.mem_erase_of_ne hne).2 (hs y (List.mem_cons_of_mem _ hy))
    rw [List.length_erase_of_mem hx] at h
    have := List.length_pos_of_mem hx
    rw [List.length_cons]
    omega
theorem RI.len {w : Sp} {l out : List Sp} {t : Int} (h : RI w l out t) : out.length ≤ 2 * l.length + 1 := by
  have h1 : (out.map (·.2)).Nodup := by
    rw [List.nodup_iff_pairwise_ne, List.pairwise_map]
    refine List.Pairwise.imp_of_mem ?_ h.rise
    intro x y hx hy hxy
    have := h.right y hy
    omega
  have h2 := nodup_le (m := w.2 :: (l.map (·.1) ++ l.map (·.2))) h1 fun x hx => by
    obtain ⟨y, hy, rfl⟩ := List.mem_map.1 hx
    rcases h.ends y hy with q | ⟨z, hz, q | q⟩
    · rw [q]; exact List.mem_cons_self
    · exact List.mem_cons_of_mem _ (List.mem_append_left _ (List.mem_map.2 ⟨z, hz, q.symm⟩))
    · exact List.mem_cons_of_mem _ (List.mem_append_right _ (List.mem_map.2 ⟨z, hz, q.symm⟩))
  simp only [List.length_map, List.length_cons, List.length_append] at h2
  omega
end Go.Sx.So

end

namespace Go.Sx.S
open Go Go.Sx Go.Proofs Go.RowKit
set_option maxRecDepth 100000
open So
theorem has_dec (x : Sp) (a : Int) : f18_0 x.1 x.2 a = decide (x.1 ≤ a ∧ a < x.2) := by
  rw [Bool.eq_iff_iff, decide_eq_true_iff]
  simp only [f18_0, cnd_and, Bool.and_eq_true, decide_eq_true_eq]
  all_goals exact ⟨fun ⟨a, b⟩ => ⟨a, b⟩, fun ⟨a, b⟩ => ⟨a, b⟩⟩
theorem right_dec (x : Sp) : f12_0 x.1 x.2 = decide (x.1 < x.2) := by
  rw [Bool.eq_iff_iff, decide_eq_true_iff]
  simp only [f12_0, cnd_and, Bool.and_eq_true, decide_eq_true_eq]
  exact ⟨fun ⟨_, b⟩ => b, fun b => ⟨Int.le_refl _, b⟩⟩
theorem in_dec (x y : Sp) : f15_0 x.1 x.2 y.1 y.2 = decide (inn x y) := by
  rw [Bool.eq_iff_iff, decide_eq_true_iff]
  simp only [f15_0, f11_0, cnd_and, Bool.and_eq_true, decide_eq_true_eq, inn]
  all_goals exact ⟨fun ⟨⟨⟨a, b⟩, c⟩, d⟩ => ⟨a, b, c, d⟩, fun ⟨a, b, c, d⟩ => ⟨⟨⟨a, b⟩, c⟩, d⟩⟩
def pre38 (v : V38) : Prop := v.L ≤ v.M ∧ v.L ≤ 30000000000
theorem l38 {L M : Nat} {a : Int} {F G : Nat → Int} (hM : L ≤ M) (hL : L ≤ 30000000000) :
    LT (r38_0 (P38_0.mk L a false M F G)) (S38_0.mk 0) ∧
      (fun s : S38_0 => ((L : Int) ≤ s.x5 ∧ ¬ Hs (seg (sp F G) 0 L) a) ∨ (s.x5 < (L : Int) ∧ Hs (seg (sp F G) 0 L) a)) (lastS (r38_0 (P38_0.mk L a false M F G)) (S38_0.mk 0)) := by
  refine LT.post (fun s : S38_0 => ∃ i : Nat, s.x5 = i ∧ i ≤ L ∧ ∀ j, j < i → ¬ (F j ≤ a ∧ a < G j))
    (fun s : S38_0 => ((L : Int) ≤ s.x5 ∧ ¬ Hs (seg (sp F G) 0 L) a) ∨ (s.x5 < (L : Int) ∧ Hs (seg (sp F G) 0 L) a)) (fun s : S38_0 => (L - s.x5).toNat) ?_ ?_
  rotate_left
  · exact ⟨0, rfl, Nat.zero_le _, fun j h => absurd h (Nat.not_lt_zero _)⟩
  rintro ⟨x⟩ ⟨i, g1, g2, g3⟩
  simp only at g1
  subst g1
  have w2 : IntKind.i64.wrap ((i : Int) + 1) = ((i + 1 : Nat) : Int) := by rw [wi (by omega) (by omega)]; omega
  have dec : f18_0 (F i) (G i) a = decide (F i ≤ a ∧ a < G i) := has_dec (sp F G i) a
  simp only [r38_0, e38_0_0, e38_0_2, e38_0_3, e38_0_4, e38_0_6, Tr.ok, Tr.get, w2, Nat.zero_add, Int.toNat_natCast]
  by_cases hc : i < L
  · have hd : cnd (decide ((i : Int) < (L : Int))) false true = false := by rw [decide_eq_true (by omega)]; rfl
    rw [hd, dec]
    refine ⟨⟨(fun e => by cases e), fun _ => ⟨⟨by omega, by omega⟩, by omega, fun _ => trivial, fun _ => trivial⟩⟩, ?_⟩
    by_cases hm : F i ≤ a ∧ a < G i
    · rw [decide_eq_true hm]
      exact .inl ⟨⟨_, _, _, rfl⟩, .inr ⟨by omega, sp F G i, mem_seg.2 ⟨i, hc, rfl⟩, hm⟩⟩
    · rw [decide_eq_false hm]
      refine .inr ⟨_, rfl, ⟨i + 1, rfl, by omega, fun j h1 => ?_⟩, by simp only [w2]; omega⟩
      by_cases hj : j = i
      · subst hj; exact hm
      · exact g3 j (by omega)
  · have hd : cnd (decide ((i : Int) < (L : Int))) false true = true := by rw [decide_eq_false (by omega)]; rfl
    rw [hd]
    refine ⟨⟨fun _ => trivial, (fun e => by cases e)⟩, .inl ⟨⟨_, _, _, rfl⟩, .inl ⟨by omega, ?_⟩⟩⟩
    rintro ⟨x, hx, h⟩
    obtain ⟨j, hj, rfl⟩ := mem_seg.1 hx
    exact g3 j (by omega) h
theorem n38 (v : V38) (h : pre38 v) : (f38 v).ok ∧ (f38 v).get.1 = .bool (decide (Hs (seg (sp v.F v.G) 0 v.L) v.at_)) ∧ HOws (f38 v).get.2.1 [HO.row 29 2 v.M (fun j => [SV.int .u64 (v.F j), SV.int .u64 (v.G j)])] := by
  cases v with
  | mk L a M F G =>
  obtain ⟨h1, h2⟩ : L ≤ M ∧ L ≤ 30000000000 := h
  obtain ⟨k1, k2⟩ := l38 (a := a) (F := F) (G := G) h1 h2
  refine ⟨⟨k1, trivial⟩, ?_, .refl _⟩
  show SV.bool (f38_2 _) = _
  congr 1
  have key : ∀ s : S38_0, (((L : Int) ≤ s.x5 ∧ ¬ Hs (seg (sp F G) 0 L) a) ∨ (s.x5 < (L : Int) ∧ Hs (seg (sp F G) 0 L) a)) →
      cnd (cnd (cnd (decide (s.x5 < (L : Int))) false true) false true) true false = decide (Hs (seg (sp F G) 0 L) a) := by
    intro s k2
    rcases k2 with ⟨a, b⟩ | ⟨a, b⟩
    · rw [decide_eq_false (by omega), decide_eq_false b]; rfl
    · rw [decide_eq_true (by omega), decide_eq_true b]; rfl
  exact key _ k2
noncomputable def f38n (v : V38) : Tr (Fin th.R) := .need (pre38 v) (.leaf (.bool (decide (So.Hs (So.seg (sp v.F v.G) 0 v.L) v.at_)), [.row 29 2 v.M (fun j => [.int .u64 (v.F j), .int .u64 (v.G j)])], []))
theorem s38n : Sound Try.prog th 38 (fnC d38 ofV38 f38n) := fnC_refine s38 fun v h => by
  obtain ⟨hp, _⟩ := h
  obtain ⟨a, b, c⟩ := n38 v hp
  exact ⟨a, b.symm, (qdd38 v).symm, c, by show 1 ≤ 1; decide⟩
noncomputable def nice38n : List (Nat × CF th.R) := (38, lift (fnC d38 ofV38 f38n)) :: nice27n
theorem nok38n : NiceOk Try.prog th nice38n := ⟨lift_sound s38n, nok27n⟩
end Go.Sx.S

namespace Go.Sx.S
open Go Go.Sx Go.Proofs Go.RowKit
set_option maxRecDepth 100000
open So
def pre37 (v : V37) : Prop := v.L ≤ v.M ∧ v.L ≤ 30000000000
theorem l37 {L M : Nat} {a t : Int} {F G : Nat → Int} (hM : L ≤ M) (hL : L ≤ 30000000000) :
    LT (r37_0 (P37_0.mk L a M F G)) (S37_0.mk t 0) ∧ (fun s : S37_0 => s.x2 = nx (seg (sp F G) 0 L) a t) (lastS (r37_0 (P37_0.mk L a M F G)) (S37_0.mk t 0)) := by
  refine LT.post (fun s : S37_0 => ∃ i : Nat, s.x7 = i ∧ i ≤ L ∧ s.x2 = nx (seg (sp F G) 0 i) a t) (fun s : S37_0 => s.x2 = nx (seg (sp F G) 0 L) a t) (fun s : S37_0 => (L - s.x7).toNat) ?_ ?_
  rotate_left
  · exact ⟨0, rfl, Nat.zero_le _, rfl⟩
  rintro ⟨y, x⟩ ⟨i, g1, g2, g3⟩
  simp only at g1 g3
  subst g1
  have w2 : IntKind.i64.wrap ((i : Int) + 1) = ((i + 1 : Nat) : Int) := by rw [wi (by omega) (by omega)]; omega
  have st : nx (seg (sp F G) 0 (i + 1)) a t = nst a y (sp F G i) := by rw [seg_succ, nx_snoc, ← g3]
  have c1 : cnd (cnd (decide (F i > a)) (decide (F i < y)) false) (F i) y = nst1 a y (F i) := by
    rw [cnd_and, ← Bool.decide_and, cndB]; unfold nst1; simp only [decide_eq_true_eq]
  have c2 : ∀ z, cnd (cnd (decide (G i > a)) (decide (G i < z)) false) (G i) z = nst1 a z (G i) := fun z => by
    rw [cnd_and, ← Bool.decide_and, cndB]; unfold nst1; simp only [decide_eq_true_eq]
  simp only [r37_0, e37_0_0, e37_0_2, e37_0_3, e37_0_4, e37_0_5, e37_0_6, e37_0_7, e37_0_8, e37_0_9, e37_0_10, e37_0_11, e37_0_13, e37_0_14, Tr.ok, Tr.get, w2, Nat.zero_add, Int.toNat_natCast, c1, c2]
  by_cases hc : i < L
  · have hd : cnd (decide ((i : Int) < (L : Int))) false true = false := by rw [decide_eq_true (by omega)]; rfl
    rw [hd]
    refine ⟨⟨(fun e => by cases e), fun _ => ?_⟩, .inr ⟨_, rfl, ⟨i + 1, rfl, by omega, st.symm⟩, by simp only [w2]; omega⟩⟩
    (repeat' apply And.intro) <;> intros <;> (repeat' apply And.intro) <;> intros <;> first | trivial | omega
  · have hd : cnd (decide ((i : Int) < (L : Int))) false true = true := by rw [decide_eq_false (by omega)]; rfl
    have : i = L := by omega
    subst this
    rw [hd]
    exact ⟨⟨fun _ => trivial, (fun e => by cases e)⟩, .inl ⟨⟨_, _, _, rfl⟩, g3⟩⟩
theorem n37 (v : V37) (h : pre37 v) : (f37 v).ok ∧ (f37 v).get.1 = .int .u64 (nx (seg (sp v.F v.G) 0 v.L) v.at_ v.to_) ∧ HOws (f37 v).get.2.1 [HO.row 29 2 v.M (fun j => [SV.int .u64 (v.F j), SV.int .u64 (v.G j)])] := by
  cases v with
  | mk L a t M F G =>
  obtain ⟨h1, h2⟩ : L ≤ M ∧ L ≤ 30000000000 := h
  obtain ⟨k1, k2⟩ := l37 (a := a) (t := t) (F := F) (G := G) h1 h2
  exact ⟨⟨k1, trivial⟩, congrArg (SV.int .u64) k2, .refl _⟩
noncomputable def f37n (v : V37) : Tr (Fin th.R) := .need (pre37 v) (.leaf (.int .u64 (So.nx (So.seg (sp v.F v.G) 0 v.L) v.at_ v.to_), [.row 29 2 v.M (fun j => [.int .u64 (v.F j), .int .u64 (v.G j)])], []))
theorem s37n : Sound Try.prog th 37 (fnC d37 ofV37 f37n) := fnC_refine s37 fun v h => by
  obtain ⟨hp, _⟩ := h
  obtain ⟨a, b, c⟩ := n37 v hp
  exact ⟨a, b.symm, (qdd37 v).symm, c, by show 1 ≤ 1; decide⟩
noncomputable def nice37n : List (Nat × CF th.R) := (37, lift (fnC d37 ofV37 f37n)) :: nice38n
theorem nok37n : NiceOk Try.prog th nice37n := ⟨lift_sound s37n, nok38n⟩
end Go.Sx.S

namespace Go.Sx.S
open Go Go.Sx Go.Proofs Go.RowKit
set_option maxRecDepth 100000
structure V28 where
  L : Nat
  wf : Int
  wt : Int
  M : Nat
  F : Nat → Int
  G : Nat → Int
def A28 (v : V28) : List SV := [.slc 0 2 0 v.L, .agg [.int .u64 v.wf, .int .u64 v.wt]]
def H28 (v : V28) : List (HO th.R) := [.row 29 2 v.M (fun j => [.int .u64 (v.F j), .int .u64 (v.G j)])]
def toV28 (v : V28) : List (Vl th.R) := [.n v.L, .i v.wf, .i v.wt, .n v.M, .c v.F, .c v.G]
def ofV28 : List (Vl th.R) → Option V28
  | [.n L, .i wf, .i wt, .n M, .c F, .c G] => some ⟨L, wf, wt, M, F, G⟩
  | _ => none
def d28 : Ft := ⟨[.slc0 0 2, .agg [.int .u64, .int .u64]], [.rowc 29 [.int .u64, .int .u64]]⟩
structure P28_0 where
  n0 : Nat
  N0 : Nat
  F0_0 : Nat → Int
  F0_1 : Nat → Int
  xh1_0 : Int
  xh1_1 : Int
structure S28_0 where
  n5 : Nat
  x6 : Int
  N2 : Nat
  F2_0 : Nat → Int
  F2_1 : Nat → Int
instance : Inhabited S28_0 := ⟨⟨0, 0, 0, fun _ => 0, fun _ => 0⟩⟩
def I28_0 (p : P28_0) (s : S28_0) : St th.R := ⟨[some (.slc 0 2 0 p.n0), none, none, some (.ptr 1 0), none, some (.slc 2 2 0 s.n5), some (.int .u64 s.x6), none, none, none, none, none, none, none, none, none, none, none, none, none, none, none, none, none, none, none, none, none, none, none, none, none, none, none, none, none, none, none, none, none, none, none, none, none, none, none, none, none, none, none, none, none], [.row 29 2 p.N0 (fun j => [.int .u64 (p.F0_0 j), .int .u64 (p.F0_1 j)]), .cells 29 [.int .u64 p.xh1_0, .int .u64 p.xh1_1], .row 29 2 s.N2 (fun j => [.int .u64 (s.F2_0 j), .int .u64 (s.F2_1 j)])], [], []⟩
def d28_0 : Lp := ⟨⟨52, [(0, .slc0 0 2), (3, .ptr 1 0), (5, .slc0 2 2), (6, .int .u64)], [.rowc 29 [.int .u64, .int .u64], .cells 29 [.int .u64, .int .u64], .rowc 29 [.int .u64, .int .u64]]⟩, [⟨5, 29, 2⟩], 2, [], [5], []⟩
def toV28_0 (p : P28_0) (s : S28_0) : List (Vl th.R) := [.n p.n0, .n s.n5, .i s.x6, .n p.N0, .c p.F0_0, .c p.F0_1, .i p.xh1_0, .i p.xh1_1, .n s.N2, .c s.F2_0, .c s.F2_1]
def ofV28_0 : List (Vl th.R) → Option (P28_0 × S28_0)
  | [.n n0, .n n5, .i x6, .n N0, .c F0_0, .c F0_1, .i xh1_0, .i xh1_1, .n N2, .c F2_0, .c F2_1] => some (⟨n0, N0, F0_0, F0_1, xh1_0, xh1_1⟩, ⟨n5, x6, N2, F2_0, F2_1⟩)
  | _ => none
noncomputable def e28_0_0 (p : P28_0) (s : S28_0) : (Bool) := cnd (decide (s.x6 < p.xh1_1)) false true
noncomputable def e28_0_1 (p : P28_0) (s : S28_0) : (Prop) := (∀ (i : Nat), scpL (0:Nat) ((fun (j : Nat) => [SV.int IntKind.u64 (p.F0_0 j), SV.int IntKind.u64 (p.F0_1 j)]) i) = true) ∧ ∀ (i : Nat), scpL (0:Nat) ((fun (j : Nat) => [SV.int IntKind.u64 (s.F2_0 j), SV.int IntKind.u64 (s.F2_1 j)]) i) = true
noncomputable def e28_0_2 (p : P28_0) (s : S28_0) : (Prop) := ∀ (i : Nat), scpL (0:Nat) ((fun (j : Nat) => [SV.int IntKind.u64 (p.F0_0 j), SV.int IntKind.u64 (p.F0_1 j)]) i) = true
noncomputable def e28_0_3 (p : P28_0) (s : S28_0) : (Prop) := ∀ (i : Nat), i < p.N0 → (fun (j : Nat) => [SV.int IntKind.u64 (p.F0_0 j), SV.int IntKind.u64 (p.F0_1 j)]) i = elC (fun (j : Nat) => [SV.int IntKind.u64 (p.F0_0 j), SV.int IntKind.u64 (p.F0_1 j)]) (0:Nat) [Ck.int IntKind.u64, Ck.int IntKind.u64] i
noncomputable def e28_0_4 (p : P28_0) (s : S28_0) : (Prop) := pre37 (V37.mk p.n0 s.x6 p.xh1_1 p.N0 p.F0_0 p.F0_1)
noncomputable def e28_0_5 (p : P28_0) (s : S28_0) : (Prop) := pre38 (V38.mk p.n0 s.x6 p.N0 p.F0_0 p.F0_1)
noncomputable def e28_0_6 (p : P28_0) (s : S28_0) : (Prop) := (!decide (So.Hs (So.seg (sp p.F0_0 p.F0_1) (0:Nat) p.n0) s.x6)) = true → cnd (decide ((↑s.n5 : Int) > (0 : Int))) true false = true → (0 : Int) ≤ IntKind.i64.wrap ((↑s.n5 : Int) - (1 : Int)) ∧ IntKind.i64.wrap ((↑s.n5 : Int) - (1 : Int)) < (↑s.n5 : Int)
noncomputable def e28_0_7 (p : P28_0) (s : S28_0) : (Prop) := (!decide (So.Hs (So.seg (sp p.F0_0 p.F0_1) (0:Nat) p.n0) s.x6)) = true → cnd (decide ((↑s.n5 : Int) > (0 : Int))) true false = true → (0:Nat) + (IntKind.i64.wrap ((↑s.n5 : Int) - (1 : Int))).toNat < s.N2
noncomputable def e28_0_8 (p : P28_0) (s : S28_0) : (Prop) := (!decide (So.Hs (So.seg (sp p.F0_0 p.F0_1) (0:Nat) p.n0) s.x6)) = true → cnd (decide ((↑s.n5 : Int) > (0 : Int))) (s.F2_1 ((0:Nat) + (IntKind.i64.wrap ((↑s.n5 : Int) - (1 : Int))).toNat) == s.x6) false = true → (0 : Int) ≤ IntKind.i64.wrap ((↑s.n5 : Int) - (1 : Int)) ∧ IntKind.i64.wrap ((↑s.n5 : Int) - (1 : Int)) < (↑s.n5 : Int)
noncomputable def e28_0_9 (p : P28_0) (s : S28_0) : (Prop) := (!decide (So.Hs (So.seg (sp p.F0_0 p.F0_1) (0:Nat) p.n0) s.x6)) = true → cnd (decide ((↑s.n5 : Int) > (0 : Int))) (s.F2_1 ((0:Nat) + (IntKind.i64.wrap ((↑s.n5 : Int) - (1 : Int))).toNat) == s.x6) false = true → (0:Nat) + (IntKind.i64.wrap ((↑s.n5 : Int) - (1 : Int))).toNat < s.N2 ∧ (2 : Nat) = (2 : Nat)
noncomputable def e28_0_10 (p : P28_0) (s : S28_0) : (Prop) := (!decide (So.Hs (So.seg (sp p.F0_0 p.F0_1) (0:Nat) p.n0) s.x6)) = true → cnd (decide ((↑s.n5 : Int) > (0 : Int))) (s.F2_1 ((0:Nat) + (IntKind.i64.wrap ((↑s.n5 : Int) - (1 : Int))).toNat) == s.x6) false = false → (0:Nat) = (0:Nat) ∧ s.n5 ≤ s.N2 ∧ (1 : Nat) ≤ (1 : Nat) ∧ (s.n5 + (1 : Nat)) * (4096 : Nat) ≤ (140737488355328 : Nat) ∧ s.n5 + (1 : Nat) ≤ (9223372036854775807 : Nat)
noncomputable def e28_0_11 (p : P28_0) (s : S28_0) : (Bool) := !decide (So.Hs (So.seg (sp p.F0_0 p.F0_1) (0:Nat) p.n0) s.x6)
noncomputable def e28_0_12 (p : P28_0) (s : S28_0) : (Bool) := cnd (decide ((↑s.n5 : Int) > (0 : Int))) (s.F2_1 ((0:Nat) + (IntKind.i64.wrap ((↑s.n5 : Int) - (1 : Int))).toNat) == s.x6) false
noncomputable def e28_0_13 (p : P28_0) (s : S28_0) : (Prop) := ((∀ (i : Nat), scpL (0:Nat) ((fun (j : Nat) => [SV.int IntKind.u64 (p.F0_0 j), SV.int IntKind.u64 (p.F0_1 j)]) i) = true) ∧ ∀ (i : Nat), scpL (0:Nat) ((fun (j : Nat) => rowSet (j.beq ((0:Nat) + (IntKind.i64.wrap ((↑s.n5 : Int) - (1 : Int))).toNat)) (splice ((fun (j : Nat) => [SV.int IntKind.u64 (s.F2_0 j), SV.int IntKind.u64 (s.F2_1 j)]) ((0:Nat) + (IntKind.i64.wrap ((↑s.n5 : Int) - (1 : Int))).toNat)) (1 : Nat) (SV.int IntKind.u64 (So.nx (So.seg (sp p.F0_0 p.F0_1) (0:Nat) p.n0) s.x6 p.xh1_1)).cells) ((fun (j : Nat) => [SV.int IntKind.u64 (s.F2_0 j), SV.int IntKind.u64 (s.F2_1 j)]) j)) i) = true) ∧ (∀ (i : Nat), i < p.N0 → (fun (j : Nat) => [SV.int IntKind.u64 (p.F0_0 j), SV.int IntKind.u64 (p.F0_1 j)]) i = elC (fun (j : Nat) => [SV.int IntKind.u64 (p.F0_0 j), SV.int IntKind.u64 (p.F0_1 j)]) (0:Nat) [Ck.int IntKind.u64, Ck.int IntKind.u64] i) ∧ ∀ (i : Nat), i < s.N2 → (fun (j : Nat) => rowSet (j.beq ((0:Nat) + (IntKind.i64.wrap ((↑s.n5 : Int) - (1 : Int))).toNat)) (splice ((fun (j : Nat) => [SV.int IntKind.u64 (s.F2_0 j), SV.int IntKind.u64 (s.F2_1 j)]) ((0:Nat) + (IntKind.i64.wrap ((↑s.n5 : Int) - (1 : Int))).toNat)) (1 : Nat) (SV.int IntKind.u64 (So.nx (So.seg (sp p.F0_0 p.F0_1) (0:Nat) p.n0) s.x6 p.xh1_1)).cells) ((fun (j : Nat) => [SV.int IntKind.u64 (s.F2_0 j), SV.int IntKind.u64 (s.F2_1 j)]) j)) i = elC (fun (j : Nat) => rowSet (j.beq ((0:Nat) + (IntKind.i64.wrap ((↑s.n5 : Int) - (1 : Int))).toNat)) (splice ((fun (j : Nat) => [SV.int IntKind.u64 (s.F2_0 j), SV.int IntKind.u64 (s.F2_1 j)]) ((0:Nat) + (IntKind.i64.wrap ((↑s.n5 : Int) - (1 : Int))).toNat)) (1 : Nat) (SV.int IntKind.u64 (So.nx (So.seg (sp p.F0_0 p.F0_1) (0:Nat) p.n0) s.x6 p.xh1_1)).cells) ((fun (j : Nat) => [SV.int IntKind.u64 (s.F2_0 j), SV.int IntKind.u64 (s.F2_1 j)]) j)) (0:Nat) [Ck.int IntKind.u64, Ck.int IntKind.u64] i
noncomputable def e28_0_14 (p : P28_0) (s : S28_0) : (Int) := So.nx (So.seg (sp p.F0_0 p.F0_1) (0:Nat) p.n0) s.x6 p.xh1_1
noncomputable def e28_0_15 (p : P28_0) (s : S28_0) : Nat → (Int) := fun j => cnd (j.beq ((0:Nat) + (IntKind.i64.wrap ((↑s.n5 : Int) - (1 : Int))).toNat)) (s.F2_0 ((0:Nat) + (IntKind.i64.wrap ((↑s.n5 : Int) - (1 : Int))).toNat)) (s.F2_0 j)
noncomputable def e28_0_16 (p : P28_0) (s : S28_0) : Nat → (Int) := fun j => cnd (j.beq ((0:Nat) + (IntKind.i64.wrap ((↑s.n5 : Int) - (1 : Int))).toNat)) (So.nx (So.seg (sp p.F0_0 p.F0_1) (0:Nat) p.n0) s.x6 p.xh1_1) (s.F2_1 j)
noncomputable def e28_0_17 (p : P28_0) (s : S28_0) : (Prop) := ((∀ (i : Nat), scpL (0:Nat) ((fun (j : Nat) => [SV.int IntKind.u64 (p.F0_0 j), SV.int IntKind.u64 (p.F0_1 j)]) i) = true) ∧ ∀ (i : Nat), scpL (0:Nat) ((fun (i : Nat) => rowSet (i.blt s.n5) ((fun (j : Nat) => [SV.int IntKind.u64 (s.F2_0 j), SV.int IntKind.u64 (s.F2_1 j)]) i) (rowEl (1 : Nat) (2 : Nat) (setMany (List.map (fun (i : Nat) => [SV.int IntKind.u64 (0 : Int), SV.int IntKind.u64 (0 : Int)].getD (i % (2 : Nat)) Inhabited.default) (List.range (2 : Nat))) (0:Nat) (SV.agg (setMany (setMany [SV.int IntKind.u64 (0 : Int), SV.int IntKind.u64 (0 : Int)] (0:Nat) (SV.int IntKind.u64 s.x6).cells) (1 : Nat) (SV.int IntKind.u64 (So.nx (So.seg (sp p.F0_0 p.F0_1) (0:Nat) p.n0) s.x6 p.xh1_1)).cells)).cells) ((0:Nat) + (i - s.n5)))) i) = true) ∧ (∀ (i : Nat), i < p.N0 → (fun (j : Nat) => [SV.int IntKind.u64 (p.F0_0 j), SV.int IntKind.u64 (p.F0_1 j)]) i = elC (fun (j : Nat) => [SV.int IntKind.u64 (p.F0_0 j), SV.int IntKind.u64 (p.F0_1 j)]) (0:Nat) [Ck.int IntKind.u64, Ck.int IntKind.u64] i) ∧ ∀ (i : Nat), i < s.n5 + (1 : Nat) → (fun (i : Nat) => rowSet (i.blt s.n5) ((fun (j : Nat) => [SV.int IntKind.u64 (s.F2_0 j), SV.int IntKind.u64 (s.F2_1 j)]) i) (rowEl (1 : Nat) (2 : Nat) (setMany (List.map (fun (i : Nat) => [SV.int IntKind.u64 (0 : Int), SV.int IntKind.u64 (0 : Int)].getD (i % (2 : Nat)) Inhabited.default) (List.range (2 : Nat))) (0:Nat) (SV.agg (setMany (setMany [SV.int IntKind.u64 (0 : Int), SV.int IntKind.u64 (0 : Int)] (0:Nat) (SV.int IntKind.u64 s.x6).cells) (1 : Nat) (SV.int IntKind.u64 (So.nx (So.seg (sp p.F0_0 p.F0_1) (0:Nat) p.n0) s.x6 p.xh1_1)).cells)).cells) ((0:Nat) + (i - s.n5)))) i = elC (fun (i : Nat) => rowSet (i.blt s.n5) ((fun (j : Nat) => [SV.int IntKind.u64 (s.F2_0 j), SV.int IntKind.u64 (s.F2_1 j)]) i) (rowEl (1 : Nat) (2 : Nat) (setMany (List.map (fun (i : Nat) => [SV.int IntKind.u64 (0 : Int), SV.int IntKind.u64 (0 : Int)].getD (i % (2 : Nat)) Inhabited.default) (List.range (2 : Nat))) (0:Nat) (SV.agg (setMany (setMany [SV.int IntKind.u64 (0 : Int), SV.int IntKind.u64 (0 : Int)] (0:Nat) (SV.int IntKind.u64 s.x6).cells) (1 : Nat) (SV.int IntKind.u64 (So.nx (So.seg (sp p.F0_0 p.F0_1) (0:Nat) p.n0) s.x6 p.xh1_1)).cells)).cells) ((0:Nat) + (i - s.n5)))) (0:Nat) [Ck.int IntKind.u64, Ck.int IntKind.u64] i
noncomputable def e28_0_18 (p : P28_0) (s : S28_0) : (Nat) := s.n5 + (1 : Nat)
noncomputable def e28_0_19 (p : P28_0) (s : S28_0) : Nat → (Int) := fun j => cnd (j.blt s.n5) (s.F2_0 j) s.x6
noncomputable def e28_0_20 (p : P28_0) (s : S28_0) : Nat → (Int) := fun j => cnd (j.blt s.n5) (s.F2_1 j) (So.nx (So.seg (sp p.F0_0 p.F0_1) (0:Nat) p.n0) s.x6 p.xh1_1)
noncomputable def e28_0_21 (p : P28_0) (s : S28_0) : (Prop) := ((∀ (i : Nat), scpL (0:Nat) ((fun (j : Nat) => [SV.int IntKind.u64 (p.F0_0 j), SV.int IntKind.u64 (p.F0_1 j)]) i) = true) ∧ ∀ (i : Nat), scpL (0:Nat) ((fun (j : Nat) => [SV.int IntKind.u64 (s.F2_0 j), SV.int IntKind.u64 (s.F2_1 j)]) i) = true) ∧ (∀ (i : Nat), i < p.N0 → (fun (j : Nat) => [SV.int IntKind.u64 (p.F0_0 j), SV.int IntKind.u64 (p.F0_1 j)]) i = elC (fun (j : Nat) => [SV.int IntKind.u64 (p.F0_0 j), SV.int IntKind.u64 (p.F0_1 j)]) (0:Nat) [Ck.int IntKind.u64, Ck.int IntKind.u64] i) ∧ ∀ (i : Nat), i < s.N2 → (fun (j : Nat) => [SV.int IntKind.u64 (s.F2_0 j), SV.int IntKind.u64 (s.F2_1 j)]) i = elC (fun (j : Nat) => [SV.int IntKind.u64 (s.F2_0 j), SV.int IntKind.u64 (s.F2_1 j)]) (0:Nat) [Ck.int IntKind.u64, Ck.int IntKind.u64] i
theorem n_e28_0_1 (p : P28_0) (s : S28_0) : e28_0_1 p s := by
  unfold e28_0_1
  first
    | (intros; rfl)
    | (intro i; rfl)
    | (intro i _; rfl)
    | (intro _ i; rfl)
    | (intro _ i _; rfl)
    | (refine ⟨?_, ?_⟩ <;> intro i <;> rfl)
    | (refine ⟨?_, ?_, ?_⟩ <;> intro i <;> rfl)
    | (refine ⟨?_, ?_⟩ <;> intro i _ <;> rfl)
    | (repeat' apply And.intro) <;> first | (intro i; rfl) | (intro i _; rfl) | (intro i h; exact absurd h (Nat.not_lt_zero i)) | (intro i; exact scpL_rowSet (by rfl) (by rfl)) | (intro i; exact scpL_rowEl (by kernel_rfl) _)
    | (intros; (repeat' apply And.intro) <;> intros <;> first | rfl | (exact absurd (by assumption) (Nat.not_lt_zero _)))
    | omega
    | decide
theorem n_e28_0_2 (p : P28_0) (s : S28_0) : e28_0_2 p s := by
  unfold e28_0_2
  first
    | (intros; rfl)
    | (intro i; rfl)
    | (intro i _; rfl)
    | (intro _ i; rfl)
    | (intro _ i _; rfl)
    | (refine ⟨?_, ?_⟩ <;> intro i <;> rfl)
    | (refine ⟨?_, ?_, ?_⟩ <;> intro i <;> rfl)
    | (refine ⟨?_, ?_⟩ <;> intro i _ <;> rfl)
    | (repeat' apply And.intro) <;> first | (intro i; rfl) | (intro i _; rfl) | (intro i h; exact absurd h (Nat.not_lt_zero i)) | (intro i; exact scpL_rowSet (by rfl) (by rfl)) | (intro i; exact scpL_rowEl (by kernel_rfl) _)
    | (intros; (repeat' apply And.intro) <;> intros <;> first | rfl | (exact absurd (by assumption) (Nat.not_lt_zero _)))
    | omega
    | decide
theorem n_e28_0_3 (p : P28_0) (s : S28_0) : e28_0_3 p s := by
  unfold e28_0_3
  first
    | (intros; rfl)
    | (intro i; rfl)
    | (intro i _; rfl)
    | (intro _ i; rfl)
    | (intro _ i _; rfl)
    | (refine ⟨?_, ?_⟩ <;> intro i <;> rfl)
    | (refine ⟨?_, ?_, ?_⟩ <;> intro i <;> rfl)
    | (refine ⟨?_, ?_⟩ <;> intro i _ <;> rfl)
    | (repeat' apply And.intro) <;> first | (intro i; rfl) | (intro i _; rfl) | (intro i h; exact absurd h (Nat.not_lt_zero i)) | (intro i; exact scpL_rowSet (by rfl) (by rfl)) | (intro i; exact scpL_rowEl (by kernel_rfl) _)
    | (intros; (repeat' apply And.intro) <;> intros <;> first | rfl | (exact absurd (by assumption) (Nat.not_lt_zero _)))
    | omega
    | decide
theorem n_e28_0_13 (p : P28_0) (s : S28_0) : e28_0_13 p s := by
  unfold e28_0_13
  first
    | (intros; rfl)
    | (intro i; rfl)
    | (intro i _; rfl)
    | (intro _ i; rfl)
    | (intro _ i _; rfl)
    | (refine ⟨?_, ?_⟩ <;> intro i <;> rfl)
    | (refine ⟨?_, ?_, ?_⟩ <;> intro i <;> rfl)
    | (refine ⟨?_, ?_⟩ <;> intro i _ <;> rfl)
    | (repeat' apply And.intro) <;> first | (intro i; rfl) | (intro i _; rfl) | (intro i h; exact absurd h (Nat.not_lt_zero i)) | (intro i; exact scpL_rowSet (by rfl) (by rfl)) | (intro i; exact scpL_rowEl (by kernel_rfl) _)
    | (intros; (repeat' apply And.intro) <;> intros <;> first | rfl | (exact absurd (by assumption) (Nat.not_lt_zero _)))
    | omega
    | decide
theorem n_e28_0_17 (p : P28_0) (s : S28_0) : e28_0_17 p s := by
  unfold e28_0_17
  first
    | (intros; rfl)
    | (intro i; rfl)
    | (intro i _; rfl)
    | (intro _ i; rfl)
    | (intro _ i _; rfl)
    | (refine ⟨?_, ?_⟩ <;> intro i <;> rfl)
    | (refine ⟨?_, ?_, ?_⟩ <;> intro i <;> rfl)
    | (refine ⟨?_, ?_⟩ <;> intro i _ <;> rfl)
    | (repeat' apply And.intro) <;> first | (intro i; rfl) | (intro i _; rfl) | (intro i h; exact absurd h (Nat.not_lt_zero i)) | (intro i; exact scpL_rowSet (by rfl) (by rfl)) | (intro i; exact scpL_rowEl (by kernel_rfl) _)
    | (intros; (repeat' apply And.intro) <;> intros <;> first | rfl | (exact absurd (by assumption) (Nat.not_lt_zero _)))
    | omega
    | decide
theorem n_e28_0_21 (p : P28_0) (s : S28_0) : e28_0_21 p s := by
  unfold e28_0_21
  first
    | (intros; rfl)
    | (intro i; rfl)
    | (intro i _; rfl)
    | (intro _ i; rfl)
    | (intro _ i _; rfl)
    | (refine ⟨?_, ?_⟩ <;> intro i <;> rfl)
    | (refine ⟨?_, ?_, ?_⟩ <;> intro i <;> rfl)
    | (refine ⟨?_, ?_⟩ <;> intro i _ <;> rfl)
    | (repeat' apply And.intro) <;> first | (intro i; rfl) | (intro i _; rfl) | (intro i h; exact absurd h (Nat.not_lt_zero i)) | (intro i; exact scpL_rowSet (by rfl) (by rfl)) | (intro i; exact scpL_rowEl (by kernel_rfl) _)
    | (intros; (repeat' apply And.intro) <;> intros <;> first | rfl | (exact absurd (by assumption) (Nat.not_lt_zero _)))
    | omega
    | decide
noncomputable def rf28_0 (p : P28_0) (s : S28_0) : Tr (Rs th.R S28_0) := (Tr.ite (e28_0_0 p s) (Tr.need (e28_0_1 p s) (Tr.leaf (Rs.out (Ex.exit ((0:Nat))) (none :: (none :: (none :: (none :: (none :: (List.cons (Option.some (SV.slc (2) ((2 : Nat)) ((0:Nat)) (s.n5))) (none :: (none :: (none :: (none :: (none :: (none :: (none :: (none :: (none :: (none :: (none :: (none :: (none :: (none :: (none :: (none :: (none :: (none :: (none :: (none :: (none :: (none :: (none :: (none :: (none :: (none :: (none :: (none :: (none :: (none :: (none :: (none :: (none :: (none :: (none :: (none :: (none :: (none :: (none :: (none :: (none :: (none :: (none :: (none :: (none :: (none :: [])))))))))))))))))))))))))))))))))))))))))))))))))))) (List.cons (HO.row ((29 : Nat)) ((2 : Nat)) (p.N0) (fun j => (List.cons (SV.int (IntKind.u64) (p.F0_0 j)) (List.cons (SV.int (IntKind.u64) (p.F0_1 j)) [])))) (List.cons (HO.cells ((29 : Nat)) (List.cons (SV.int (IntKind.u64) (p.xh1_0)) (List.cons (SV.int (IntKind.u64) (p.xh1_1)) []))) (List.cons (HO.row ((29 : Nat)) ((2 : Nat)) (s.N2) (fun j => (List.cons (SV.int (IntKind.u64) (s.F2_0 j)) (List.cons (SV.int (IntKind.u64) (s.F2_1 j)) [])))) [])))))) (Tr.need (e28_0_2 p s) (Tr.need (e28_0_3 p s) (Tr.need (e28_0_4 p s) (Tr.need (e28_0_2 p s) (Tr.need (e28_0_2 p s) (Tr.need (e28_0_3 p s) (Tr.need (e28_0_5 p s) (Tr.need (e28_0_2 p s) (Tr.need (e28_0_6 p s) (Tr.need (e28_0_7 p s) (Tr.need (e28_0_8 p s) (Tr.need (e28_0_9 p s) (Tr.need (e28_0_10 p s) (Tr.ite (e28_0_11 p s) (Tr.ite (e28_0_12 p s) (Tr.need (e28_0_13 p s) (Tr.leaf (Rs.on (S28_0.mk (s.n5) ((e28_0_14 p s)) (s.N2) ((fun j => (e28_0_15 p s j))) ((fun j => (e28_0_16 p s j))))))) (Tr.need (e28_0_17 p s) (Tr.leaf (Rs.on (S28_0.mk ((e28_0_18 p s)) ((e28_0_14 p s)) ((e28_0_18 p s)) ((fun j => (e28_0_19 p s j))) ((fun j => (e28_0_20 p s j)))))))) (Tr.need (e28_0_21 p s) (Tr.leaf (Rs.on (S28_0.mk (s.n5) ((e28_0_14 p s)) (s.N2) (s.F2_0) (s.F2_1))))))))))))))))))))
noncomputable def r28_0 (p : P28_0) (s : S28_0) : Tr (Rs th.R S28_0) := (Tr.ite (e28_0_0 p s) (Tr.leaf (Rs.out (Ex.exit ((0:Nat))) (none :: (none :: (none :: (none :: (none :: (List.cons (Option.some (SV.slc (2) ((2 : Nat)) ((0:Nat)) (s.n5))) (none :: (none :: (none :: (none :: (none :: (none :: (none :: (none :: (none :: (none :: (none :: (none :: (none :: (none :: (none :: (none :: (none :: (none :: (none :: (none :: (none :: (none :: (none :: (none :: (none :: (none :: (none :: (none :: (none :: (none :: (none :: (none :: (none :: (none :: (none :: (none :: (none :: (none :: (none :: (none :: (none :: (none :: (none :: (none :: (none :: (none :: [])))))))))))))))))))))))))))))))))))))))))))))))))))) (List.cons (HO.row ((29 : Nat)) ((2 : Nat)) (p.N0) (fun j => (List.cons (SV.int (IntKind.u64) (p.F0_0 j)) (List.cons (SV.int (IntKind.u64) (p.F0_1 j)) [])))) (List.cons (HO.cells ((29 : Nat)) (List.cons (SV.int (IntKind.u64) (p.xh1_0)) (List.cons (SV.int (IntKind.u64) (p.xh1_1)) []))) (List.cons (HO.row ((29 : Nat)) ((2 : Nat)) (s.N2) (fun j => (List.cons (SV.int (IntKind.u64) (s.F2_0 j)) (List.cons (SV.int (IntKind.u64) (s.F2_1 j)) [])))) []))))) (Tr.need (e28_0_4 p s) (Tr.need (e28_0_5 p s) (Tr.need (e28_0_6 p s) (Tr.need (e28_0_7 p s) (Tr.need (e28_0_8 p s) (Tr.need (e28_0_9 p s) (Tr.need (e28_0_10 p s) (Tr.ite (e28_0_11 p s) (Tr.ite (e28_0_12 p s) (Tr.leaf (Rs.on (S28_0.mk (s.n5) ((e28_0_14 p s)) (s.N2) ((fun j => (e28_0_15 p s j))) ((fun j => (e28_0_16 p s j)))))) (Tr.leaf (Rs.on (S28_0.mk ((e28_0_18 p s)) ((e28_0_14 p s)) ((e28_0_18 p s)) ((fun j => (e28_0_19 p s j))) ((fun j => (e28_0_20 p s j))))))) (Tr.leaf (Rs.on (S28_0.mk (s.n5) ((e28_0_14 p s)) (s.N2) (s.F2_0) (s.F2_1)))))))))))))
noncomputable def E28_0 : St th.R → Out th := evCode th Try.prog (auto th Try.prog nice37n [] 20) (autoH [] [] [] [4, 5, 51] : Hints th) (lpAt Try.prog 28 0)
theorem B28_0 : CodeSound th Try.prog (lpAt Try.prog 28 0) E28_0 := evCode_sound (T := th) (P := Try.prog) (tbl := (auto th Try.prog nice37n [] 20)) (auto_sound (nice := nice37n) (us := []) nok37n 20) (autoH [] [] [] [4, 5, 51] : Hints th) _ (LoopsOk_mem (fun _ => rfl) _ fun b hb L hL => by cases hL)
noncomputable def L28_0 : St th.R → Out th := loopL d28_0 ofV28_0 r28_0
theorem h1_28_0 (p : P28_0) (s : S28_0) : bld d28_0.tm (toV28_0 p s) = some (I28_0 p s) := by kernel_rfl
theorem h2_28_0 (l : List (Vl th.R)) (p : P28_0) (s : S28_0) (h : ofV28_0 l = some (p, s)) : l = toV28_0 p s := by
  unfold ofV28_0 at h
  split at h
  · cases h; rfl
  · cases h
theorem h3_28_0 (p : P28_0) (s : S28_0) : cvE d28_0 (E28_0 (I28_0 p s)) = some ((rf28_0 p s).map (Rs.map (toV28_0 p))) := by kernel_rfl
theorem h3g_28_0 (p : P28_0) (s : S28_0) : (rf28_0 p s).get = (r28_0 p s).get := by kernel_rfl
theorem h4_28_0 (p : P28_0) (s s1 : S28_0) : outH d28_0.dirt d28_0.n0 (r28_0 p s) = repH (maskH d28_0.dirt 0 d28_0.n0 (I28_0 p s1).heap) (r28_0 p s) := by kernel_rfl
theorem ls28_0 : CodeSound th Try.prog (.loop (lpAt Try.prog 28 0)) L28_0 := loopL_sound B28_0 d28_0 I28_0 toV28_0 (by kernel_rfl) h1_28_0 h2_28_0
  (fun p s => ⟨(rf28_0 p s).map (Rs.map (toV28_0 p)), h3_28_0 p s, fun h => by
    rw [Tr.map_ok]
    unfold r28_0 at h; unfold rf28_0
    simp only [Tr.ok, n_e28_0_1, n_e28_0_2, n_e28_0_3, n_e28_0_13, n_e28_0_17, n_e28_0_21, true_and, and_true, forall_const, implies_true] at h ⊢
    try exact h, by rw [Tr.map_get, h3g_28_0 p s]⟩) h4_28_0
theorem ok28 : LoopsOk th Try.prog (autoH [(3, L28_0)] [] [] [4, 5, 51] : Hints th) (bodyOf Try.prog 28) := autoH_ok (bs := [lpAt Try.prog 28 0]) (by kernel_rfl) fun b hb L hL => by
  simp only [List.mem_cons, List.not_mem_nil, or_false] at hb
  rcases hb with rfl
  · have e : lookL [(3, L28_0)] (firstReg (lpAt Try.prog 28 0)) = some L28_0 := by kernel_rfl
    rw [e] at hL; cases hL
    exact ls28_0
noncomputable def f28_0 (v : V28) : (Prop) := (∀ (i : Nat), i < v.M → (fun (j : Nat) => [SV.int IntKind.u64 (v.F j), SV.int IntKind.u64 (v.G j)]) i = elC (fun (j : Nat) => [SV.int IntKind.u64 (v.F j), SV.int IntKind.u64 (v.G j)]) (0:Nat) [Ck.int IntKind.u64, Ck.int IntKind.u64] i) ∧ ∀ (i : Nat), i < (0:Nat) → (fun (j : Nat) => []) i = elC (fun (j : Nat) => []) (0:Nat) [Ck.int IntKind.u64, Ck.int IntKind.u64] i
noncomputable def f28_1 (v : V28) : (Prop) := LT (r28_0 (P28_0.mk v.L v.M v.F v.G v.wf v.wt)) (S28_0.mk (0:Nat) v.wf (0:Nat) (colI (fun (j : Nat) => []) (0:Nat)) (colI (fun (j : Nat) => []) (1 : Nat)))
noncomputable def f28z0 (v : V28) : S28_0 := lastS (r28_0 (P28_0.mk v.L v.M v.F v.G v.wf v.wt)) (S28_0.mk (0:Nat) v.wf (0:Nat) (colI (fun (j : Nat) => []) (0:Nat)) (colI (fun (j : Nat) => []) (1 : Nat)))
noncomputable def f28_2 (v : V28) : (Nat) := (f28z0 v).n5
noncomputable def f28_3 (v : V28) : (Nat) := (f28z0 v).N2
noncomputable def f28_4 (v : V28) : Nat → (Int) := fun j => (f28z0 v).F2_0 j
noncomputable def f28_5 (v : V28) : Nat → (Int) := fun j => (f28z0 v).F2_1 j
theorem n_f28_0 (v : V28) : f28_0 v := by
  unfold f28_0
  first
    | (intros; rfl)
    | (intro i; rfl)
    | (intro i _; rfl)
    | (intro _ i; rfl)
    | (intro _ i _; rfl)
    | (refine ⟨?_, ?_⟩ <;> intro i <;> rfl)
    | (refine ⟨?_, ?_, ?_⟩ <;> intro i <;> rfl)
    | (refine ⟨?_, ?_⟩ <;> intro i _ <;> rfl)
    | (repeat' apply And.intro) <;> first | (intro i; rfl) | (intro i _; rfl) | (intro i h; exact absurd h (Nat.not_lt_zero i)) | (intro i; exact scpL_rowSet (by rfl) (by rfl)) | (intro i; exact scpL_rowEl (by kernel_rfl) _)
    | (intros; (repeat' apply And.intro) <;> intros <;> first | rfl | (exact absurd (by assumption) (Nat.not_lt_zero _)))
    | omega
    | decide
noncomputable def ff28 (v : V28) : Tr (Fin th.R) := (Tr.need (f28_0 v) (Tr.need (f28_1 v) (Tr.leaf (Prod.mk (SV.slc ((2 : Nat)) ((2 : Nat)) ((0:Nat)) (f28_2 v)) (Prod.mk (List.cons (HO.row ((29 : Nat)) ((2 : Nat)) (v.M) (fun j => (List.cons (SV.int (IntKind.u64) (v.F j)) (List.cons (SV.int (IntKind.u64) (v.G j)) [])))) (List.cons (HO.cells ((29 : Nat)) (List.cons (SV.int (IntKind.u64) (v.wf)) (List.cons (SV.int (IntKind.u64) (v.wt)) []))) (List.cons (HO.row ((29 : Nat)) ((2 : Nat)) (f28_3 v) (fun j => (List.cons (SV.int (IntKind.u64) (f28_4 v j)) (List.cons (SV.int (IntKind.u64) (f28_5 v j)) [])))) []))) [])))))
noncomputable def f28 (v : V28) : Tr (Fin th.R) := (Tr.need (f28_1 v) (Tr.leaf (Prod.mk (SV.slc ((2 : Nat)) ((2 : Nat)) ((0:Nat)) (f28_2 v)) (Prod.mk (List.cons (HO.row ((29 : Nat)) ((2 : Nat)) (v.M) (fun j => (List.cons (SV.int (IntKind.u64) (v.F j)) (List.cons (SV.int (IntKind.u64) (v.G j)) [])))) (List.cons (HO.cells ((29 : Nat)) (List.cons (SV.int (IntKind.u64) (v.wf)) (List.cons (SV.int (IntKind.u64) (v.wt)) []))) (List.cons (HO.row ((29 : Nat)) ((2 : Nat)) (f28_3 v) (fun j => (List.cons (SV.int (IntKind.u64) (f28_4 v j)) (List.cons (SV.int (IntKind.u64) (f28_5 v j)) [])))) []))) ([])))))
noncomputable def C28 : CF th.R := fnC d28 ofV28 (f28 )
theorem q28 (v : V28) : (evFn th Try.prog (auto th Try.prog nice37n [] 20) (autoH [(3, L28_0)] [] [] [4, 5, 51] : Hints th) 28) (A28 v) (H28 v) = some (ff28 v) := by kernel_rfl
theorem qg28 (v : V28) : ((ff28 v).map (setD [])).get = (f28 v).get := by kernel_rfl
theorem qd28 (v : V28) : allD 1 [] (ff28 v) = true := by kernel_rfl
theorem s28 : Sound Try.prog th 28 (C28 ) := fnC_sound (evFn_sound' (T := th) (P := Try.prog) (tbl := (auto th Try.prog nice37n [] 20)) (auto_sound (nice := nice37n) (us := []) nok37n 20) (H := (autoH [(3, L28_0)] [] [] [4, 5, 51] : Hints th)) (k := 28) (fnLoops ok28)) d28 A28 H28 toV28 (by kernel_rfl) (fun v => by kernel_rfl)
  (fun l v h => by
    unfold ofV28 at h
    split at h
    · cases h; rfl
    · cases h)
  [] (fun v => ⟨ff28 v, q28 v, fun h => by
    unfold f28 at h; unfold ff28
    simp only [Tr.ok, n_f28_0, true_and, and_true, forall_const, implies_true] at h ⊢
    try exact h, qg28 v, qd28 v⟩)
theorem qdd28 (v : V28) : (f28 v).get.2.2 = [] := by
  rw [← qg28, Tr.map_get]; rfl
end Go.Sx.S

namespace Go.Sx.S
open Go Go.Sx Go.Proofs Go.RowKit
set_option maxRecDepth 100000
open So
def pre28 (v : V28) : Prop := v.L ≤ v.M ∧ v.L ≤ 1000000000 ∧ v.wf < v.wt
noncomputable def rowR (M : Nat) (E : Nat → Sp) : HO th.R := .row 29 2 M (fun j => [.int .u64 (E j).1, .int .u64 (E j).2])
theorem l28 {L M : Nat} {F G F' G' : Nat → Int} {w : Sp} (hM : L ≤ M) (hL : L ≤ 1000000000) (hw : w.1 < w.2) :
    LT (r28_0 (P28_0.mk L M F G w.1 w.2)) (S28_0.mk 0 w.1 0 F' G') ∧
      (fun s : S28_0 => s.N2 = s.n5 ∧ RI w (seg (sp F G) 0 L) (seg (sp s.F2_0 s.F2_1) 0 s.n5) w.2) (lastS (r28_0 (P28_0.mk L M F G w.1 w.2)) (S28_0.mk 0 w.1 0 F' G')) := by
  refine LT.post (fun s : S28_0 => s.N2 = s.n5 ∧ RI w (seg (sp F G) 0 L) (seg (sp s.F2_0 s.F2_1) 0 s.n5) s.x6)
    (fun s : S28_0 => s.N2 = s.n5 ∧ RI w (seg (sp F G) 0 L) (seg (sp s.F2_0 s.F2_1) 0 s.n5) w.2) (fun s : S28_0 => (w.2 - s.x6).toNat) ?_ ?_
  rotate_left
  · exact ⟨rfl, RI.zero hw⟩
  rintro ⟨m, t, N2, A, B⟩ ⟨g3, g5⟩
  simp only at g3 g5
  subst g3
  have hlen : N2 ≤ 2 * L + 1 := by
    have := g5.len
    rw [seg_length, seg_length] at this
    exact this
  have hhi := g5.hi
  simp only [r28_0, e28_0_0, e28_0_4, e28_0_5, e28_0_6, e28_0_7, e28_0_8, e28_0_9, e28_0_10, e28_0_11, e28_0_12, e28_0_14, e28_0_15, e28_0_16, e28_0_18, e28_0_19, e28_0_20, Tr.ok, Tr.get, Nat.zero_add]
  by_cases hc : t < w.2
  · have hd : cnd (decide (t < w.2)) false true = false := by rw [decide_eq_true hc]; rfl
    have ni := nx_spec (E := sp F G) hc L
    have st := g5.step hc ni rfl
    have p37 : pre37 (V37.mk L t w.2 M F G) := ⟨hM, by show L ≤ 30000000000; omega⟩
    have p38 : pre38 (V38.mk L t M F G) := ⟨hM, by show L ≤ 30000000000; omega⟩
    have hlo := ni.lo
    have e0 : N2 = 0 → ¬ Hs (seg (sp F G) 0 L) t → rst (seg (sp F G) 0 L) w.2 (seg (sp A B) 0 N2) t = seg (sp A B) 0 N2 ++ [(t, nx (seg (sp F G) 0 L) t w.2)] := fun e hh => by
      subst e; rw [show seg (sp A B) 0 0 = [] from rfl]; unfold rst; rw [if_neg hh]; rfl
    have e1 : ∀ k, N2 = k + 1 → ¬ Hs (seg (sp F G) 0 L) t → rst (seg (sp F G) 0 L) w.2 (seg (sp A B) 0 N2) t = if (sp A B k).2 = t then seg (sp A B) 0 k ++ [((sp A B k).1, nx (seg (sp F G) 0 L) t w.2)] else seg (sp A B) 0 k ++ [sp A B k] ++ [(t, nx (seg (sp F G) 0 L) t w.2)] := fun k e hh => by
      subst e; rw [seg_succ (sp A B) k, rst_snoc, if_neg hh]
    generalize nx (seg (sp F G) 0 L) t w.2 = n at ni st hlo e0 e1 ⊢
    have push : seg (sp (fun j => cnd (j.blt N2) (A j) t) fun j => cnd (j.blt N2) (B j) n) 0 (N2 + 1) = seg (sp A B) 0 N2 ++ [(t, n)] := seg_push27 (x := (t, n))
    rw [hd]
    by_cases hh : Hs (seg (sp F G) 0 L) t
    · have e : rst (seg (sp F G) 0 L) w.2 (seg (sp A B) 0 N2) t = seg (sp A B) 0 N2 := by unfold rst; rw [if_pos hh]
      rw [e] at st
      have dh : (!decide (Hs (seg (sp F G) 0 L) t)) = false := by rw [decide_eq_true hh]; rfl
      rw [dh]
      refine ⟨⟨(fun e => by cases e), fun _ => ⟨p37, p38, (fun e => by cases e), (fun e => by cases e), (fun e => by cases e), (fun e => by cases e), (fun e => by cases e), (fun e => by cases e), fun _ => trivial⟩⟩, .inr ⟨_, rfl, ⟨rfl, st⟩, by simp only; omega⟩⟩
    · have dh : (!decide (Hs (seg (sp F G) 0 L) t)) = true := by rw [decide_eq_false hh]; rfl
      rw [dh]
      by_cases h0 : 0 < N2
      · obtain ⟨k, rfl⟩ : ∃ k, N2 = k + 1 := ⟨N2 - 1, by omega⟩
        have w1 : IntKind.i64.wrap (((k + 1 : Nat) : Int) - 1) = (k : Int) := by rw [wi (by omega) (by omega)]; omega
        rw [e1 k rfl hh] at st
        rw [decide_eq_true (show ((k + 1 : Nat) : Int) > 0 by omega), w1]
        simp only [Int.toNat_natCast]
        by_cases hm : B k = t
        · have db : (B k == t) = true := by rw [hm]; simp
          rw [if_pos (show (sp A B k).2 = t from hm)] at st
          rw [db]
          refine ⟨⟨(fun e => by cases e), fun _ => ⟨p37, p38, ?_⟩⟩, .inr ⟨_, rfl, ⟨rfl, ?_⟩, by simp only; omega⟩⟩
          · (repeat' apply And.intro) <;> intros <;> (repeat' apply And.intro) <;> intros <;> (repeat' apply And.intro) <;> intros <;> first | trivial | omega | contradiction
          · have e : seg (sp (fun j => cnd (j.beq k) (A k) (A j)) fun j => cnd (j.beq k) n (B j)) 0 (k + 1) = seg (sp A B) 0 k ++ [((sp A B k).1, n)] := by
              rw [seg_succ]
              congr 1
              · exact seg_congr fun j hj => by
                  have : j ≠ k := by omega
                  simp [sp, cndB, this]
              · simp [sp, cndB]
            exact e ▸ st
        · have db : (B k == t) = false := by rw [beq_eq_false_iff_ne]; exact hm
          rw [if_neg (show ¬ (sp A B k).2 = t from hm), ← seg_succ] at st
          rw [db]
          refine ⟨⟨(fun e => by cases e), fun _ => ⟨p37, p38, ?_⟩⟩, .inr ⟨_, rfl, ⟨rfl, ?_⟩, by simp only; omega⟩⟩
          · (repeat' apply And.intro) <;> intros <;> (repeat' apply And.intro) <;> intros <;> (repeat' apply And.intro) <;> intros <;> first | trivial | omega | contradiction
          · exact push ▸ st
      · have : N2 = 0 := by omega
        subst this
        rw [decide_eq_false (show ¬ ((0:Nat) : Int) > 0 by omega)]
        refine ⟨⟨(fun e => by cases e), fun _ => ⟨p37, p38, ?_⟩⟩, .inr ⟨_, rfl, ⟨rfl, ?_⟩, by simp only; omega⟩⟩
        · (repeat' apply And.intro) <;> intros <;> (repeat' apply And.intro) <;> intros <;> (repeat' apply And.intro) <;> intros <;> first | trivial | omega | contradiction
        · rw [e0 rfl hh] at st; exact push ▸ st
  · have hd : cnd (decide (t < w.2)) false true = true := by rw [decide_eq_false hc]; rfl
    have : t = w.2 := by omega
    subst this
    rw [hd]
    exact ⟨⟨fun _ => trivial, (fun e => by cases e)⟩, .inl ⟨⟨_, _, _, rfl⟩, by first | rfl | trivial, g5⟩⟩
theorem HL_ris (E : Nat → Sp) (L : Nat) {w : Sp} (hw : w.1 < w.2) : Ris (HL E L w) fun a => w.1 ≤ a ∧ a < w.2 ∧ ¬ Hs (seg E 0 L) a := by
  have h := hol_seg (w := w) (n := (RS E L).length) (R := RSr E L) (rs_sorted rfl rfl) (rs_right rfl rfl) _ (Nat.le_refl _)
  have e : seg (RSr E L) 0 (RS E L).length = RS E L := rs_seg rfl rfl
  rw [e] at h
  have r := hol_ris h hw
  have e2 : HL E L w = if (hol0 w (RS E L)).2 < w.2 then (hol0 w (RS E L)).1 ++ [((hol0 w (RS E L)).2, w.2)] else (hol0 w (RS E L)).1 := by
    unfold HL hol; rw [if_pos hw]
  rw [e2]
  refine ⟨r.right, r.rise, fun a => ?_⟩
  rw [r.cov a, show Hs (RS E L) a ↔ Hs (seg E 0 L) a from Hs_flt]
theorem n28 (v : V28) (h : pre28 v) : (f28 v).ok ∧ (f28 v).get.1 = .slc 2 2 0 (HL (sp v.F v.G) v.L (v.wf, v.wt)).length ∧
    HOws (f28 v).get.2.1 [HO.row 29 2 v.M (fun j => [SV.int .u64 (v.F j), SV.int .u64 (v.G j)]), HO.cells 29 [SV.int .u64 v.wf, SV.int .u64 v.wt], rowR (HL (sp v.F v.G) v.L (v.wf, v.wt)).length (gt (HL (sp v.F v.G) v.L (v.wf, v.wt)))] := by
  cases v with
  | mk L wf wt M F G =>
  obtain ⟨h1, h2, h3⟩ : L ≤ M ∧ L ≤ 1000000000 ∧ wf < wt := h
  obtain ⟨k1, k2, k3⟩ := l28 (F := F) (G := G) (F' := colI (fun j => []) 0) (G' := colI (fun j => []) 1) (w := (wf, wt)) h1 h2 h3
  have k3 : seg (sp (f28z0 (V28.mk L wf wt M F G)).F2_0 (f28z0 (V28.mk L wf wt M F G)).F2_1) 0 (f28z0 (V28.mk L wf wt M F G)).n5 = HL (sp F G) L (wf, wt) := k3.ris.unique (HL_ris (sp F G) L (w := (wf, wt)) h3)
  have k4 : (f28z0 (V28.mk L wf wt M F G)).n5 = (HL (sp F G) L (wf, wt)).length := by rw [← k3, seg_length]
  have k2 : (f28z0 (V28.mk L wf wt M F G)).N2 = (HL (sp F G) L (wf, wt)).length := Eq.trans k2 k4
  refine ⟨⟨k1, trivial⟩, congrArg (SV.slc 2 2 0) k4, ?_⟩
  show HOws [_, _, HO.row 29 2 (f28z0 (V28.mk L wf wt M F G)).N2 _] _
  rw [k2]
  refine .cons (.refl _) (.cons (.refl _) (.cons (.row fun i hi => ?_) .nil))
  have := gt_of k3 i (by omega)
  show [SV.int .u64 _, SV.int .u64 _] = [SV.int .u64 _, SV.int .u64 _]
  rw [this]
  rfl
noncomputable def f28n (v : V28) : Tr (Fin th.R) := .need (pre28 v) (.leaf (.slc 2 2 0 (HL (sp v.F v.G) v.L (v.wf, v.wt)).length, [.row 29 2 v.M (fun j => [.int .u64 (v.F j), .int .u64 (v.G j)]), .cells 29 [.int .u64 v.wf, .int .u64 v.wt], rowR (HL (sp v.F v.G) v.L (v.wf, v.wt)).length (So.gt (HL (sp v.F v.G) v.L (v.wf, v.wt)))], []))
theorem s28n : Sound Try.prog th 28 (fnC d28 ofV28 f28n) := fnC_refine s28 fun v h => by
  obtain ⟨hp, _⟩ := h
  obtain ⟨a, b, c⟩ := n28 v hp
  exact ⟨a, b.symm, (qdd28 v).symm, c, by show 1 ≤ 3; decide⟩
noncomputable def nice28n : List (Nat × CF th.R) := (28, lift (fnC d28 ofV28 f28n)) :: nice37n
theorem nok28n : NiceOk Try.prog th nice28n := ⟨lift_sound s28n, nok37n⟩
end Go.Sx.S

namespace Go.Sx.S
open Go Go.Sx Go.Proofs Go.RowKit
set_option maxRecDepth 100000
structure V19 where
  L : Nat
  M : Nat
  ob : Obj
  F : Nat → Int
  G : Nat → Int
def A19 (v : V19) : List SV := [.slc 0 2 0 v.L]
def H19 (v : V19) : List (HO th.R) := [.ro 27 2 v.M (fun j => [.int .u64 (v.F j), .int .u64 (v.G j)]) v.ob]
def toV19 (v : V19) : List (Vl th.R) := [.n v.L, .n v.M, .o v.ob, .c v.F, .c v.G]
def ofV19 : List (Vl th.R) → Option V19
  | [.n L, .n M, .o ob, .c F, .c G] => some ⟨L, M, ob, F, G⟩
  | _ => none
def d19 : Ft := ⟨[.slc0 0 2], [.roc 27 [.int .u64, .int .u64]]⟩
structure P19_0 where
  n6 : Nat
  x7 : Int
  N0 : Nat
  O0 : Obj
  F0_0 : Nat → Int
  F0_1 : Nat → Int
structure S19_0 where
  n3 : Nat
  x8 : Int
  N1 : Nat
  F1_0 : Nat → Int
  F1_1 : Nat → Int
instance : Inhabited S19_0 := ⟨⟨0, 0, 0, fun _ => 0, fun _ => 0⟩⟩
def I19_0 (p : P19_0) (s : S19_0) : St th.R := ⟨[none, none, none, some (.slc 1 2 0 s.n3), none, none, some (.slc 0 2 0 p.n6), some (.int .i64 p.x7), some (.int .i64 s.x8), none, none, none, none, none, none, none, none, none], [.ro 27 2 p.N0 (fun j => [.int .u64 (p.F0_0 j), .int .u64 (p.F0_1 j)]) p.O0, .row 29 2 s.N1 (fun j => [.int .u64 (s.F1_0 j), .int .u64 (s.F1_1 j)])], [], []⟩
def d19_0 : Lp := ⟨⟨18, [(3, .slc0 1 2), (6, .slc0 0 2), (7, .int .i64), (8, .int .i64)], [.roc 27 [.int .u64, .int .u64], .rowc 29 [.int .u64, .int .u64]]⟩, [⟨3, 29, 2⟩], 1, [], [3], []⟩
def toV19_0 (p : P19_0) (s : S19_0) : List (Vl th.R) := [.n s.n3, .n p.n6, .i p.x7, .i s.x8, .n p.N0, .o p.O0, .c p.F0_0, .c p.F0_1, .n s.N1, .c s.F1_0, .c s.F1_1]
def ofV19_0 : List (Vl th.R) → Option (P19_0 × S19_0)
  | [.n n3, .n n6, .i x7, .i x8, .n N0, .o O0, .c F0_0, .c F0_1, .n N1, .c F1_0, .c F1_1] => some (⟨n6, x7, N0, O0, F0_0, F0_1⟩, ⟨n3, x8, N1, F1_0, F1_1⟩)
  | _ => none
noncomputable def e19_0_0 (p : P19_0) (s : S19_0) : (Bool) := cnd (decide (s.x8 < p.x7)) false true
noncomputable def e19_0_1 (p : P19_0) (s : S19_0) : (Prop) := (∀ (i : Nat), scpL (0:Nat) ((fun (j : Nat) => [SV.int IntKind.u64 (p.F0_0 j), SV.int IntKind.u64 (p.F0_1 j)]) i) = true) ∧ ∀ (i : Nat), scpL (0:Nat) ((fun (j : Nat) => [SV.int IntKind.u64 (s.F1_0 j), SV.int IntKind.u64 (s.F1_1 j)]) i) = true
noncomputable def e19_0_2 (p : P19_0) (s : S19_0) : (Prop) := (0 : Int) ≤ s.x8 ∧ s.x8 < (↑p.n6 : Int)
noncomputable def e19_0_3 (p : P19_0) (s : S19_0) : (Prop) := (0:Nat) + s.x8.toNat < p.N0
noncomputable def e19_0_4 (p : P19_0) (s : S19_0) : (Prop) := (0:Nat) = (0:Nat) ∧ s.n3 ≤ s.N1 ∧ (1 : Nat) ≤ (1 : Nat) ∧ (s.n3 + (1 : Nat)) * (4096 : Nat) ≤ (140737488355328 : Nat) ∧ s.n3 + (1 : Nat) ≤ (9223372036854775807 : Nat)
noncomputable def e19_0_5 (p : P19_0) (s : S19_0) : (Prop) := ((∀ (i : Nat), scpL (0:Nat) ((fun (j : Nat) => [SV.int IntKind.u64 (p.F0_0 j), SV.int IntKind.u64 (p.F0_1 j)]) i) = true) ∧ ∀ (i : Nat), scpL (0:Nat) ((fun (i : Nat) => rowSet (i.blt s.n3) ((fun (j : Nat) => [SV.int IntKind.u64 (s.F1_0 j), SV.int IntKind.u64 (s.F1_1 j)]) i) (rowEl (1 : Nat) (2 : Nat) (setMany (List.map (fun (i : Nat) => [SV.int IntKind.u64 (0 : Int), SV.int IntKind.u64 (0 : Int)].getD (i % (2 : Nat)) Inhabited.default) (List.range (2 : Nat))) (0:Nat) (SV.agg (List.take (2 : Nat) (List.drop (0:Nat) (splice [SV.int IntKind.u64 (0 : Int), SV.int IntKind.u64 (0 : Int)] (0:Nat) (SV.agg (List.take (2 : Nat) (List.drop (0:Nat) ((fun (j : Nat) => [SV.int IntKind.u64 (p.F0_0 j), SV.int IntKind.u64 (p.F0_1 j)]) ((0:Nat) + s.x8.toNat))))).cells)))).cells) ((0:Nat) + (i - s.n3)))) i) = true) ∧ (∀ (i : Nat), i < p.N0 → (fun (j : Nat) => [SV.int IntKind.u64 (p.F0_0 j), SV.int IntKind.u64 (p.F0_1 j)]) i = elC (fun (j : Nat) => [SV.int IntKind.u64 (p.F0_0 j), SV.int IntKind.u64 (p.F0_1 j)]) (0:Nat) [Ck.int IntKind.u64, Ck.int IntKind.u64] i) ∧ ∀ (i : Nat), i < s.n3 + (1 : Nat) → (fun (i : Nat) => rowSet (i.blt s.n3) ((fun (j : Nat) => [SV.int IntKind.u64 (s.F1_0 j), SV.int IntKind.u64 (s.F1_1 j)]) i) (rowEl (1 : Nat) (2 : Nat) (setMany (List.map (fun (i : Nat) => [SV.int IntKind.u64 (0 : Int), SV.int IntKind.u64 (0 : Int)].getD (i % (2 : Nat)) Inhabited.default) (List.range (2 : Nat))) (0:Nat) (SV.agg (List.take (2 : Nat) (List.drop (0:Nat) (splice [SV.int IntKind.u64 (0 : Int), SV.int IntKind.u64 (0 : Int)] (0:Nat) (SV.agg (List.take (2 : Nat) (List.drop (0:Nat) ((fun (j : Nat) => [SV.int IntKind.u64 (p.F0_0 j), SV.int IntKind.u64 (p.F0_1 j)]) ((0:Nat) + s.x8.toNat))))).cells)))).cells) ((0:Nat) + (i - s.n3)))) i = elC (fun (i : Nat) => rowSet (i.blt s.n3) ((fun (j : Nat) => [SV.int IntKind.u64 (s.F1_0 j), SV.int IntKind.u64 (s.F1_1 j)]) i) (rowEl (1 : Nat) (2 : Nat) (setMany (List.map (fun (i : Nat) => [SV.int IntKind.u64 (0 : Int), SV.int IntKind.u64 (0 : Int)].getD (i % (2 : Nat)) Inhabited.default) (List.range (2 : Nat))) (0:Nat) (SV.agg (List.take (2 : Nat) (List.drop (0:Nat) (splice [SV.int IntKind.u64 (0 : Int), SV.int IntKind.u64 (0 : Int)] (0:Nat) (SV.agg (List.take (2 : Nat) (List.drop (0:Nat) ((fun (j : Nat) => [SV.int IntKind.u64 (p.F0_0 j), SV.int IntKind.u64 (p.F0_1 j)]) ((0:Nat) + s.x8.toNat))))).cells)))).cells) ((0:Nat) + (i - s.n3)))) (0:Nat) [Ck.int IntKind.u64, Ck.int IntKind.u64] i
noncomputable def e19_0_6 (p : P19_0) (s : S19_0) : (Nat) := s.n3 + (1 : Nat)
noncomputable def e19_0_7 (p : P19_0) (s : S19_0) : (Int) := IntKind.i64.wrap (s.x8 + (1 : Int))
noncomputable def e19_0_8 (p : P19_0) (s : S19_0) : Nat → (Int) := fun j => cnd (j.blt s.n3) (s.F1_0 j) (p.F0_0 ((0:Nat) + s.x8.toNat))
noncomputable def e19_0_9 (p : P19_0) (s : S19_0) : Nat → (Int) := fun j => cnd (j.blt s.n3) (s.F1_1 j) (p.F0_1 ((0:Nat) + s.x8.toNat))
theorem n_e19_0_1 (p : P19_0) (s : S19_0) : e19_0_1 p s := by
  unfold e19_0_1
  first
    | (intros; rfl)
    | (intro i; rfl)
    | (intro i _; rfl)
    | (intro _ i; rfl)
    | (intro _ i _; rfl)
    | (refine ⟨?_, ?_⟩ <;> intro i <;> rfl)
    | (refine ⟨?_, ?_, ?_⟩ <;> intro i <;> rfl)
    | (refine ⟨?_, ?_⟩ <;> intro i _ <;> rfl)
    | (repeat' apply And.intro) <;> first | (intro i; rfl) | (intro i _; rfl) | (intro i h; exact absurd h (Nat.not_lt_zero i)) | (intro i; exact scpL_rowSet (by rfl) (by rfl)) | (intro i; exact scpL_rowEl (by kernel_rfl) _)
    | (intros; (repeat' apply And.intro) <;> intros <;> first | rfl | (exact absurd (by assumption) (Nat.not_lt_zero _)))
    | omega
    | decide
theorem n_e19_0_5 (p : P19_0) (s : S19_0) : e19_0_5 p s := by
  unfold e19_0_5
  first
    | (intros; rfl)
    | (intro i; rfl)
    | (intro i _; rfl)
    | (intro _ i; rfl)
    | (intro _ i _; rfl)
    | (refine ⟨?_, ?_⟩ <;> intro i <;> rfl)
    | (refine ⟨?_, ?_, ?_⟩ <;> intro i <;> rfl)
    | (refine ⟨?_, ?_⟩ <;> intro i _ <;> rfl)
    | (repeat' apply And.intro) <;> first | (intro i; rfl) | (intro i _; rfl) | (intro i h; exact absurd h (Nat.not_lt_zero i)) | (intro i; exact scpL_rowSet (by rfl) (by rfl)) | (intro i; exact scpL_rowEl (by kernel_rfl) _)
    | (intros; (repeat' apply And.intro) <;> intros <;> first | rfl | (exact absurd (by assumption) (Nat.not_lt_zero _)))
    | omega
    | decide
noncomputable def rf19_0 (p : P19_0) (s : S19_0) : Tr (Rs th.R S19_0) := (Tr.ite (e19_0_0 p s) (Tr.need (e19_0_1 p s) (Tr.leaf (Rs.out (Ex.exit ((0:Nat))) (none :: (none :: (none :: (List.cons (Option.some (SV.slc (1) ((2 : Nat)) ((0:Nat)) (s.n3))) (none :: (none :: (none :: (none :: (none :: (none :: (none :: (none :: (none :: (none :: (none :: (none :: (none :: (none :: [])))))))))))))))))) (List.cons (HO.ro ((27 : Nat)) ((2 : Nat)) (p.N0) (fun j => (List.cons (SV.int (IntKind.u64) (p.F0_0 j)) (List.cons (SV.int (IntKind.u64) (p.F0_1 j)) []))) (p.O0)) (List.cons (HO.row ((29 : Nat)) ((2 : Nat)) (s.N1) (fun j => (List.cons (SV.int (IntKind.u64) (s.F1_0 j)) (List.cons (SV.int (IntKind.u64) (s.F1_1 j)) [])))) []))))) (Tr.need (e19_0_2 p s) (Tr.need (e19_0_3 p s) (Tr.need (e19_0_4 p s) (Tr.need (e19_0_5 p s) (Tr.leaf (Rs.on (S19_0.mk ((e19_0_6 p s)) ((e19_0_7 p s)) ((e19_0_6 p s)) ((fun j => (e19_0_8 p s j))) ((fun j => (e19_0_9 p s j)))))))))))
noncomputable def r19_0 (p : P19_0) (s : S19_0) : Tr (Rs th.R S19_0) := (Tr.ite (e19_0_0 p s) (Tr.leaf (Rs.out (Ex.exit ((0:Nat))) (none :: (none :: (none :: (List.cons (Option.some (SV.slc (1) ((2 : Nat)) ((0:Nat)) (s.n3))) (none :: (none :: (none :: (none :: (none :: (none :: (none :: (none :: (none :: (none :: (none :: (none :: (none :: (none :: [])))))))))))))))))) (List.cons (HO.ro ((27 : Nat)) ((2 : Nat)) (p.N0) (fun j => (List.cons (SV.int (IntKind.u64) (p.F0_0 j)) (List.cons (SV.int (IntKind.u64) (p.F0_1 j)) []))) (p.O0)) (List.cons (HO.row ((29 : Nat)) ((2 : Nat)) (s.N1) (fun j => (List.cons (SV.int (IntKind.u64) (s.F1_0 j)) (List.cons (SV.int (IntKind.u64) (s.F1_1 j)) [])))) [])))) (Tr.need (e19_0_2 p s) (Tr.need (e19_0_3 p s) (Tr.need (e19_0_4 p s) (Tr.leaf (Rs.on (S19_0.mk ((e19_0_6 p s)) ((e19_0_7 p s)) ((e19_0_6 p s)) ((fun j => (e19_0_8 p s j))) ((fun j => (e19_0_9 p s j))))))))))
noncomputable def E19_0 : St th.R → Out th := evCode th Try.prog (auto th Try.prog nice28n [] 20) (autoH [] [] [] [2, 3, 17] : Hints th) (lpAt Try.prog 19 0)
theorem B19_0 : CodeSound th Try.prog (lpAt Try.prog 19 0) E19_0 := evCode_sound (T := th) (P := Try.prog) (tbl := (auto th Try.prog nice28n [] 20)) (auto_sound (nice := nice28n) (us := []) nok28n 20) (autoH [] [] [] [2, 3, 17] : Hints th) _ (LoopsOk_mem (fun _ => rfl) _ fun b hb L hL => by cases hL)
noncomputable def L19_0 : St th.R → Out th := loopL d19_0 ofV19_0 r19_0
theorem h1_19_0 (p : P19_0) (s : S19_0) : bld d19_0.tm (toV19_0 p s) = some (I19_0 p s) := by kernel_rfl
theorem h2_19_0 (l : List (Vl th.R)) (p : P19_0) (s : S19_0) (h : ofV19_0 l = some (p, s)) : l = toV19_0 p s := by
  unfold ofV19_0 at h
  split at h
  · cases h; rfl
  · cases h
theorem h3_19_0 (p : P19_0) (s : S19_0) : cvE d19_0 (E19_0 (I19_0 p s)) = some ((rf19_0 p s).map (Rs.map (toV19_0 p))) := by kernel_rfl
theorem h3g_19_0 (p : P19_0) (s : S19_0) : (rf19_0 p s).get = (r19_0 p s).get := by kernel_rfl
theorem h4_19_0 (p : P19_0) (s s1 : S19_0) : outH d19_0.dirt d19_0.n0 (r19_0 p s) = repH (maskH d19_0.dirt 0 d19_0.n0 (I19_0 p s1).heap) (r19_0 p s) := by kernel_rfl
theorem ls19_0 : CodeSound th Try.prog (.loop (lpAt Try.prog 19 0)) L19_0 := loopL_sound B19_0 d19_0 I19_0 toV19_0 (by kernel_rfl) h1_19_0 h2_19_0
  (fun p s => ⟨(rf19_0 p s).map (Rs.map (toV19_0 p)), h3_19_0 p s, fun h => by
    rw [Tr.map_ok]
    unfold r19_0 at h; unfold rf19_0
    simp only [Tr.ok, n_e19_0_1, n_e19_0_5, true_and, and_true, forall_const, implies_true] at h ⊢
    try exact h, by rw [Tr.map_get, h3g_19_0 p s]⟩) h4_19_0
theorem ok19 : LoopsOk th Try.prog (autoH [(3, L19_0)] [] [] [2, 3, 17] : Hints th) (bodyOf Try.prog 19) := autoH_ok (bs := [lpAt Try.prog 19 0]) (by kernel_rfl) fun b hb L hL => by
  simp only [List.mem_cons, List.not_mem_nil, or_false] at hb
  rcases hb with rfl
  · have e : lookL [(3, L19_0)] (firstReg (lpAt Try.prog 19 0)) = some L19_0 := by kernel_rfl
    rw [e] at hL; cases hL
    exact ls19_0
noncomputable def f19_0 (v : V19) : (Prop) := (∀ (i : Nat), i < v.M → (fun (j : Nat) => [SV.int IntKind.u64 (v.F j), SV.int IntKind.u64 (v.G j)]) i = elC (fun (j : Nat) => [SV.int IntKind.u64 (v.F j), SV.int IntKind.u64 (v.G j)]) (0:Nat) [Ck.int IntKind.u64, Ck.int IntKind.u64] i) ∧ ∀ (i : Nat), i < (0:Nat) → (fun (j : Nat) => []) i = elC (fun (j : Nat) => []) (0:Nat) [Ck.int IntKind.u64, Ck.int IntKind.u64] i
noncomputable def f19_1 (v : V19) : (Prop) := LT (r19_0 (P19_0.mk v.L (↑v.L : Int) v.M v.ob v.F v.G)) (S19_0.mk (0:Nat) (0 : Int) (0:Nat) (colI (fun (j : Nat) => []) (0:Nat)) (colI (fun (j : Nat) => []) (1 : Nat)))
noncomputable def f19z0 (v : V19) : S19_0 := lastS (r19_0 (P19_0.mk v.L (↑v.L : Int) v.M v.ob v.F v.G)) (S19_0.mk (0:Nat) (0 : Int) (0:Nat) (colI (fun (j : Nat) => []) (0:Nat)) (colI (fun (j : Nat) => []) (1 : Nat)))
noncomputable def f19_2 (v : V19) : (Nat) := (f19z0 v).n3
noncomputable def f19_3 (v : V19) : (Nat) := (f19z0 v).N1
noncomputable def f19_4 (v : V19) : Nat → (Int) := fun j => (f19z0 v).F1_0 j
noncomputable def f19_5 (v : V19) : Nat → (Int) := fun j => (f19z0 v).F1_1 j
theorem n_f19_0 (v : V19) : f19_0 v := by
  unfold f19_0
  first
    | (intros; rfl)
    | (intro i; rfl)
    | (intro i _; rfl)
    | (intro _ i; rfl)
    | (intro _ i _; rfl)
    | (refine ⟨?_, ?_⟩ <;> intro i <;> rfl)
    | (refine ⟨?_, ?_, ?_⟩ <;> intro i <;> rfl)
    | (refine ⟨?_, ?_⟩ <;> intro i _ <;> rfl)
    | (repeat' apply And.intro) <;> first | (intro i; rfl) | (intro i _; rfl) | (intro i h; exact absurd h (Nat.not_lt_zero i)) | (intro i; exact scpL_rowSet (by rfl) (by rfl)) | (intro i; exact scpL_rowEl (by kernel_rfl) _)
    | (intros; (repeat' apply And.intro) <;> intros <;> first | rfl | (exact absurd (by assumption) (Nat.not_lt_zero _)))
    | omega
    | decide
noncomputable def ff19 (v : V19) : Tr (Fin th.R) := (Tr.need (f19_0 v) (Tr.need (f19_1 v) (Tr.leaf (Prod.mk (SV.slc ((1 : Nat)) ((2 : Nat)) ((0:Nat)) (f19_2 v)) (Prod.mk (List.cons (HO.ro ((27 : Nat)) ((2 : Nat)) (v.M) (fun j => (List.cons (SV.int (IntKind.u64) (v.F j)) (List.cons (SV.int (IntKind.u64) (v.G j)) []))) (v.ob)) (List.cons (HO.row ((29 : Nat)) ((2 : Nat)) (f19_3 v) (fun j => (List.cons (SV.int (IntKind.u64) (f19_4 v j)) (List.cons (SV.int (IntKind.u64) (f19_5 v j)) [])))) [])) [])))))
noncomputable def f19 (v : V19) : Tr (Fin th.R) := (Tr.need (f19_1 v) (Tr.leaf (Prod.mk (SV.slc ((1 : Nat)) ((2 : Nat)) ((0:Nat)) (f19_2 v)) (Prod.mk (List.cons (HO.ro ((27 : Nat)) ((2 : Nat)) (v.M) (fun j => (List.cons (SV.int (IntKind.u64) (v.F j)) (List.cons (SV.int (IntKind.u64) (v.G j)) []))) (v.ob)) (List.cons (HO.row ((29 : Nat)) ((2 : Nat)) (f19_3 v) (fun j => (List.cons (SV.int (IntKind.u64) (f19_4 v j)) (List.cons (SV.int (IntKind.u64) (f19_5 v j)) [])))) [])) ([])))))
noncomputable def C19 : CF th.R := fnC d19 ofV19 (f19 )
theorem q19 (v : V19) : (evFn th Try.prog (auto th Try.prog nice28n [] 20) (autoH [(3, L19_0)] [] [] [2, 3, 17] : Hints th) 19) (A19 v) (H19 v) = some (ff19 v) := by kernel_rfl
theorem qg19 (v : V19) : ((ff19 v).map (setD [])).get = (f19 v).get := by kernel_rfl
theorem qd19 (v : V19) : allD 1 [] (ff19 v) = true := by kernel_rfl
theorem s19 : Sound Try.prog th 19 (C19 ) := fnC_sound (evFn_sound' (T := th) (P := Try.prog) (tbl := (auto th Try.prog nice28n [] 20)) (auto_sound (nice := nice28n) (us := []) nok28n 20) (H := (autoH [(3, L19_0)] [] [] [2, 3, 17] : Hints th)) (k := 19) (fnLoops ok19)) d19 A19 H19 toV19 (by kernel_rfl) (fun v => by kernel_rfl)
  (fun l v h => by
    unfold ofV19 at h
    split at h
    · cases h; rfl
    · cases h)
  [] (fun v => ⟨ff19 v, q19 v, fun h => by
    unfold f19 at h; unfold ff19
    simp only [Tr.ok, n_f19_0, true_and, and_true, forall_const, implies_true] at h ⊢
    try exact h, qg19 v, qd19 v⟩)
theorem qdd19 (v : V19) : (f19 v).get.2.2 = [] := by
  rw [← qg19, Tr.map_get]; rfl
end Go.Sx.S

namespace Go.Sx.S
open Go Go.Sx Go.Proofs Go.RowKit
set_option maxRecDepth 100000
open So
def pre19 (v : V19) : Prop := v.L ≤ v.M ∧ v.L ≤ 30000000000
theorem l19 {L M : Nat} {F G F' G' : Nat → Int} {ob : Obj} (hM : L ≤ M) (hL : L ≤ 30000000000) :
    LT (r19_0 (P19_0.mk L (L : Int) M ob F G)) (S19_0.mk 0 0 0 F' G') ∧
      (fun s : S19_0 => s.n3 = L ∧ s.N1 = L ∧ ∀ j, j < L → s.F1_0 j = F j ∧ s.F1_1 j = G j) (lastS (r19_0 (P19_0.mk L (L : Int) M ob F G)) (S19_0.mk 0 0 0 F' G')) := by
  refine LT.post (fun s : S19_0 => ∃ i : Nat, s.x8 = i ∧ i ≤ L ∧ s.n3 = i ∧ s.N1 = i ∧ ∀ j, j < i → s.F1_0 j = F j ∧ s.F1_1 j = G j)
    (fun s : S19_0 => s.n3 = L ∧ s.N1 = L ∧ ∀ j, j < L → s.F1_0 j = F j ∧ s.F1_1 j = G j) (fun s : S19_0 => (L - s.x8).toNat) ?_ ?_
  rotate_left
  · exact ⟨0, rfl, Nat.zero_le _, rfl, rfl, fun j h => absurd h (Nat.not_lt_zero _)⟩
  rintro ⟨m, x, N1, A, B⟩ ⟨i, g1, g2, g3, g4, g5⟩
  simp only at g1 g3 g4 g5
  subst g1 g3 g4
  have w2 : IntKind.i64.wrap ((N1 : Int) + 1) = ((N1 + 1 : Nat) : Int) := by rw [wi (by omega) (by omega)]; omega
  simp only [r19_0, e19_0_0, e19_0_2, e19_0_3, e19_0_4, e19_0_6, e19_0_7, e19_0_8, e19_0_9, Tr.ok, Tr.get, w2, Nat.zero_add, Int.toNat_natCast]
  by_cases hc : N1 < L
  · have hd : cnd (decide ((N1 : Int) < (L : Int))) false true = false := by rw [decide_eq_true (by omega)]; rfl
    rw [hd]
    refine ⟨⟨(fun e => by cases e), fun _ => ?_⟩, .inr ⟨_, rfl, ⟨N1 + 1, rfl, by omega, rfl, rfl, fun j hj => ?_⟩, by simp only [w2]; omega⟩⟩
    · (repeat' apply And.intro) <;> first | trivial | omega
    · simp only [cndB, bltT]
      by_cases h : j < N1
      · rw [if_pos h, if_pos h]; exact g5 j h
      · have : j = N1 := by omega
        subst this
        rw [if_neg h, if_neg h]; exact ⟨rfl, rfl⟩
  · have hd : cnd (decide ((N1 : Int) < (L : Int))) false true = true := by rw [decide_eq_false (by omega)]; rfl
    have : N1 = L := by omega
    subst this
    rw [hd]
    exact ⟨⟨fun _ => trivial, (fun e => by cases e)⟩, .inl ⟨⟨_, _, _, rfl⟩, rfl, rfl, g5⟩⟩
theorem n19 (v : V19) (h : pre19 v) : (f19 v).ok ∧ (f19 v).get.1 = .slc 1 2 0 v.L ∧ HOws (f19 v).get.2.1 [HO.ro 27 2 v.M (fun j => [SV.int .u64 (v.F j), SV.int .u64 (v.G j)]) v.ob, HO.row 29 2 v.L (fun j => [SV.int .u64 (v.F j), SV.int .u64 (v.G j)])] := by
  obtain ⟨L, M, ob, F, G⟩ := v
  obtain ⟨h1, h2⟩ : L ≤ M ∧ L ≤ 30000000000 := h
  obtain ⟨k1, k2, k3, k4⟩ := l19 (F := F) (G := G) (F' := colI (fun j => []) 0) (G' := colI (fun j => []) 1) (ob := ob) h1 h2
  refine ⟨⟨k1, trivial⟩, congrArg (SV.slc 1 2 0) k2, ?_⟩
  show HOws [_, HO.row 29 2 (f19z0 (V19.mk L M ob F G)).N1 _] _
  rw [show (f19z0 (V19.mk L M ob F G)).N1 = L from k3]
  refine .cons (.refl _) (.cons (.row fun i hi => ?_) .nil)
  have := k4 i hi
  exact (congrArg (fun a => [SV.int .u64 a, SV.int .u64 _]) this.1).trans (congrArg (fun b => [SV.int .u64 (F i), SV.int .u64 b]) this.2)
noncomputable def f19n (v : V19) : Tr (Fin th.R) := .need (pre19 v) (.leaf (.slc 1 2 0 v.L, [.ro 27 2 v.M (fun j => [.int .u64 (v.F j), .int .u64 (v.G j)]) v.ob, .row 29 2 v.L (fun j => [.int .u64 (v.F j), .int .u64 (v.G j)])], []))
theorem s19n : Sound Try.prog th 19 (fnC d19 ofV19 f19n) := fnC_refine s19 fun v h => by
  obtain ⟨hp, _⟩ := h
  obtain ⟨a, b, c⟩ := n19 v hp
  exact ⟨a, b.symm, (qdd19 v).symm, c, by show 1 ≤ 2; decide⟩
structure V19w where
  L : Nat
  M : Nat
  F : Nat → Int
  G : Nat → Int
def inj19 (v : V19w) (o : Obj) : V19 := ⟨v.L, v.M, o, v.F, v.G⟩
def A19w (v : V19w) : List SV := [.slc 0 2 0 v.L]
def H19w (v : V19w) : List (HO th.R) := [.row 27 2 v.M (fun j => [.int .u64 (v.F j), .int .u64 (v.G j)])]
def toV19w (v : V19w) : List (Vl th.R) := [.n v.L, .n v.M, .c v.F, .c v.G]
def ofV19w : List (Vl th.R) → Option V19w
  | [.n L, .n M, .c F, .c G] => some ⟨L, M, F, G⟩
  | _ => none
def d19w : Ft := ⟨[.slc0 0 2], [.rowc 27 [.int .u64, .int .u64]]⟩
noncomputable def f19w (v : V19w) : Tr (Fin th.R) := .need (pre19 (inj19 v (.cells #[] 0))) (.leaf (.slc 1 2 0 (inj19 v (.cells #[] 0)).L, [.row 27 2 v.M (fun j => [.int .u64 (v.F j), .int .u64 (v.G j)]), .row 29 2 (inj19 v (.cells #[] 0)).L (fun j => [.int .u64 ((inj19 v (.cells #[] 0)).F j), .int .u64 ((inj19 v (.cells #[] 0)).G j)])], []))
theorem cw19 (v : V19w) (o : Obj) : fnC d19 ofV19 f19n (A19 (inj19 v o)) (H19 (inj19 v o)) = some (.need (∀ i, i < v.M → (fun j => [.int .u64 (v.F j), .int .u64 (v.G j)] : Nat → List SV) i = elC (fun j => [.int .u64 (v.F j), .int .u64 (v.G j)] : Nat → List SV) 0 [.int .u64, .int .u64] i) ((f19n (inj19 v o)).map (fixF (H19 (inj19 v o))))) := by kernel_rfl
theorem s19w : Sound Try.prog th 19 (fnC d19w ofV19w f19w) := by
  refine fnC_direct (T := th) d19w A19w H19w toV19w (by kernel_rfl) (fun v => by kernel_rfl) ?_ ?_ (fun v _ => Nat.le_add_left _ _) (fun v _ n hn _ => ?_)
  · intro l v h
    unfold ofV19w at h
    split at h
    · cases h; rfl
    · cases h
  · intro v hok K w0 ρ w vargs I hr
    obtain ⟨hp, _⟩ := hok
    exact ro_row (tl := [.row 29 2 (inj19 v (.cells #[] 0)).L (fun j => [.int .u64 ((inj19 v (.cells #[] 0)).F j), .int .u64 ((inj19 v (.cells #[] 0)).G j)])]) (val := .slc 1 2 0 (inj19 v (.cells #[] 0)).L) (fun o K w0 ρ w vargs I hr => fnC_out s19n (cw19 v o) ⟨fun i _ => rfl, hp, trivial⟩ I hr) I hr
  · have hn : n < 1 := hn
    have : n = 0 := by omega
    subst this; rfl
noncomputable def nice19n : List (Nat × CF th.R) := (19, lift (orC (fnC d19 ofV19 f19n) (fnC d19w ofV19w f19w))) :: nice28n
theorem nok19n : NiceOk Try.prog th nice19n := ⟨lift_sound (orC_sound s19n s19w), nok28n⟩
end Go.Sx.S

namespace Go.Sx.S
open Go Go.Sx Go.Proofs Go.RowKit
set_option maxRecDepth 100000
structure V29 where
  L : Nat
  M : Nat
  ob : Obj
  F : Nat → Int
  G : Nat → Int
def A29 (v : V29) : List SV := [.slc 0 2 0 v.L]
def H29 (v : V29) : List (HO th.R) := [.ro 27 2 v.M (fun j => [.int .u64 (v.F j), .int .u64 (v.G j)]) v.ob]
def toV29 (v : V29) : List (Vl th.R) := [.n v.L, .n v.M, .o v.ob, .c v.F, .c v.G]
def ofV29 : List (Vl th.R) → Option V29
  | [.n L, .n M, .o ob, .c F, .c G] => some ⟨L, M, ob, F, G⟩
  | _ => none
def d29 : Ft := ⟨[.slc0 0 2], [.roc 27 [.int .u64, .int .u64]]⟩
structure P29_0 where
  n7 : Nat
  x8 : Int
  N0 : Nat
  O0 : Obj
  F0_0 : Nat → Int
  F0_1 : Nat → Int
  N1 : Nat
  F1_0 : Nat → Int
  F1_1 : Nat → Int
structure S29_0 where
  n3 : Nat
  x9 : Int
  N2 : Nat
  F2_0 : Nat → Int
  F2_1 : Nat → Int
instance : Inhabited S29_0 := ⟨⟨0, 0, 0, fun _ => 0, fun _ => 0⟩⟩
def I29_0 (p : P29_0) (s : S29_0) : St th.R := ⟨[none, none, none, some (.slc 2 2 0 s.n3), none, none, none, some (.slc 1 2 0 p.n7), some (.int .i64 p.x8), some (.int .i64 s.x9), none, none, none, none, none, none, none, none, none, none, none], [.ro 27 2 p.N0 (fun j => [.int .u64 (p.F0_0 j), .int .u64 (p.F0_1 j)]) p.O0, .row 29 2 p.N1 (fun j => [.int .u64 (p.F1_0 j), .int .u64 (p.F1_1 j)]), .row 29 2 s.N2 (fun j => [.int .u64 (s.F2_0 j), .int .u64 (s.F2_1 j)])], [], []⟩
def d29_0 : Lp := ⟨⟨21, [(3, .slc0 2 2), (7, .slc0 1 2), (8, .int .i64), (9, .int .i64)], [.roc 27 [.int .u64, .int .u64], .rowc 29 [.int .u64, .int .u64], .rowc 29 [.int .u64, .int .u64]]⟩, [⟨3, 29, 2⟩], 2, [], [3], []⟩
def toV29_0 (p : P29_0) (s : S29_0) : List (Vl th.R) := [.n s.n3, .n p.n7, .i p.x8, .i s.x9, .n p.N0, .o p.O0, .c p.F0_0, .c p.F0_1, .n p.N1, .c p.F1_0, .c p.F1_1, .n s.N2, .c s.F2_0, .c s.F2_1]
def ofV29_0 : List (Vl th.R) → Option (P29_0 × S29_0)
  | [.n n3, .n n7, .i x8, .i x9, .n N0, .o O0, .c F0_0, .c F0_1, .n N1, .c F1_0, .c F1_1, .n N2, .c F2_0, .c F2_1] => some (⟨n7, x8, N0, O0, F0_0, F0_1, N1, F1_0, F1_1⟩, ⟨n3, x9, N2, F2_0, F2_1⟩)
  | _ => none
noncomputable def e29_0_0 (p : P29_0) (s : S29_0) : (Bool) := cnd (decide (s.x9 < p.x8)) false true
noncomputable def e29_0_1 (p : P29_0) (s : S29_0) : (Prop) := (∀ (i : Nat), scpL (0:Nat) ((fun (j : Nat) => [SV.int IntKind.u64 (p.F0_0 j), SV.int IntKind.u64 (p.F0_1 j)]) i) = true) ∧ (∀ (i : Nat), scpL (0:Nat) ((fun (j : Nat) => [SV.int IntKind.u64 (p.F1_0 j), SV.int IntKind.u64 (p.F1_1 j)]) i) = true) ∧ ∀ (i : Nat), scpL (0:Nat) ((fun (j : Nat) => [SV.int IntKind.u64 (s.F2_0 j), SV.int IntKind.u64 (s.F2_1 j)]) i) = true
noncomputable def e29_0_2 (p : P29_0) (s : S29_0) : (Prop) := (0 : Int) ≤ s.x9 ∧ s.x9 < (↑p.n7 : Int)
noncomputable def e29_0_3 (p : P29_0) (s : S29_0) : (Prop) := (0:Nat) + s.x9.toNat < p.N1
noncomputable def e29_0_4 (p : P29_0) (s : S29_0) : (Prop) := f12_0 (p.F1_0 ((0:Nat) + s.x9.toNat)) (p.F1_1 ((0:Nat) + s.x9.toNat)) = true → (0:Nat) = (0:Nat) ∧ s.n3 ≤ s.N2 ∧ (1 : Nat) ≤ (1 : Nat) ∧ (s.n3 + (1 : Nat)) * (4096 : Nat) ≤ (140737488355328 : Nat) ∧ s.n3 + (1 : Nat) ≤ (9223372036854775807 : Nat)
noncomputable def e29_0_5 (p : P29_0) (s : S29_0) : (Bool) := f12_0 (p.F1_0 ((0:Nat) + s.x9.toNat)) (p.F1_1 ((0:Nat) + s.x9.toNat))
noncomputable def e29_0_6 (p : P29_0) (s : S29_0) : (Prop) := ((∀ (i : Nat), scpL (0:Nat) ((fun (j : Nat) => [SV.int IntKind.u64 (p.F0_0 j), SV.int IntKind.u64 (p.F0_1 j)]) i) = true) ∧ (∀ (i : Nat), scpL (0:Nat) ((fun (j : Nat) => [SV.int IntKind.u64 (p.F1_0 j), SV.int IntKind.u64 (p.F1_1 j)]) i) = true) ∧ ∀ (i : Nat), scpL (0:Nat) ((fun (i : Nat) => rowSet (i.blt s.n3) ((fun (j : Nat) => [SV.int IntKind.u64 (s.F2_0 j), SV.int IntKind.u64 (s.F2_1 j)]) i) (rowEl (1 : Nat) (2 : Nat) (setMany (List.map (fun (i : Nat) => [SV.int IntKind.u64 (0 : Int), SV.int IntKind.u64 (0 : Int)].getD (i % (2 : Nat)) Inhabited.default) (List.range (2 : Nat))) (0:Nat) (SV.agg (List.take (2 : Nat) (List.drop (0:Nat) (splice [SV.int IntKind.u64 (0 : Int), SV.int IntKind.u64 (0 : Int)] (0:Nat) (SV.agg (List.take (2 : Nat) (List.drop (0:Nat) ((fun (j : Nat) => [SV.int IntKind.u64 (p.F1_0 j), SV.int IntKind.u64 (p.F1_1 j)]) ((0:Nat) + s.x9.toNat))))).cells)))).cells) ((0:Nat) + (i - s.n3)))) i) = true) ∧ (∀ (i : Nat), i < p.N0 → (fun (j : Nat) => [SV.int IntKind.u64 (p.F0_0 j), SV.int IntKind.u64 (p.F0_1 j)]) i = elC (fun (j : Nat) => [SV.int IntKind.u64 (p.F0_0 j), SV.int IntKind.u64 (p.F0_1 j)]) (0:Nat) [Ck.int IntKind.u64, Ck.int IntKind.u64] i) ∧ (∀ (i : Nat), i < p.N1 → (fun (j : Nat) => [SV.int IntKind.u64 (p.F1_0 j), SV.int IntKind.u64 (p.F1_1 j)]) i = elC (fun (j : Nat) => [SV.int IntKind.u64 (p.F1_0 j), SV.int IntKind.u64 (p.F1_1 j)]) (0:Nat) [Ck.int IntKind.u64, Ck.int IntKind.u64] i) ∧ ∀ (i : Nat), i < s.n3 + (1 : Nat) → (fun (i : Nat) => rowSet (i.blt s.n3) ((fun (j : Nat) => [SV.int IntKind.u64 (s.F2_0 j), SV.int IntKind.u64 (s.F2_1 j)]) i) (rowEl (1 : Nat) (2 : Nat) (setMany (List.map (fun (i : Nat) => [SV.int IntKind.u64 (0 : Int), SV.int IntKind.u64 (0 : Int)].getD (i % (2 : Nat)) Inhabited.default) (List.range (2 : Nat))) (0:Nat) (SV.agg (List.take (2 : Nat) (List.drop (0:Nat) (splice [SV.int IntKind.u64 (0 : Int), SV.int IntKind.u64 (0 : Int)] (0:Nat) (SV.agg (List.take (2 : Nat) (List.drop (0:Nat) ((fun (j : Nat) => [SV.int IntKind.u64 (p.F1_0 j), SV.int IntKind.u64 (p.F1_1 j)]) ((0:Nat) + s.x9.toNat))))).cells)))).cells) ((0:Nat) + (i - s.n3)))) i = elC (fun (i : Nat) => rowSet (i.blt s.n3) ((fun (j : Nat) => [SV.int IntKind.u64 (s.F2_0 j), SV.int IntKind.u64 (s.F2_1 j)]) i) (rowEl (1 : Nat) (2 : Nat) (setMany (List.map (fun (i : Nat) => [SV.int IntKind.u64 (0 : Int), SV.int IntKind.u64 (0 : Int)].getD (i % (2 : Nat)) Inhabited.default) (List.range (2 : Nat))) (0:Nat) (SV.agg (List.take (2 : Nat) (List.drop (0:Nat) (splice [SV.int IntKind.u64 (0 : Int), SV.int IntKind.u64 (0 : Int)] (0:Nat) (SV.agg (List.take (2 : Nat) (List.drop (0:Nat) ((fun (j : Nat) => [SV.int IntKind.u64 (p.F1_0 j), SV.int IntKind.u64 (p.F1_1 j)]) ((0:Nat) + s.x9.toNat))))).cells)))).cells) ((0:Nat) + (i - s.n3)))) (0:Nat) [Ck.int IntKind.u64, Ck.int IntKind.u64] i
noncomputable def e29_0_7 (p : P29_0) (s : S29_0) : (Nat) := s.n3 + (1 : Nat)
noncomputable def e29_0_8 (p : P29_0) (s : S29_0) : (Int) := IntKind.i64.wrap (s.x9 + (1 : Int))
noncomputable def e29_0_9 (p : P29_0) (s : S29_0) : Nat → (Int) := fun j => cnd (j.blt s.n3) (s.F2_0 j) (p.F1_0 ((0:Nat) + s.x9.toNat))
noncomputable def e29_0_10 (p : P29_0) (s : S29_0) : Nat → (Int) := fun j => cnd (j.blt s.n3) (s.F2_1 j) (p.F1_1 ((0:Nat) + s.x9.toNat))
noncomputable def e29_0_11 (p : P29_0) (s : S29_0) : (Prop) := ((∀ (i : Nat), scpL (0:Nat) ((fun (j : Nat) => [SV.int IntKind.u64 (p.F0_0 j), SV.int IntKind.u64 (p.F0_1 j)]) i) = true) ∧ (∀ (i : Nat), scpL (0:Nat) ((fun (j : Nat) => [SV.int IntKind.u64 (p.F1_0 j), SV.int IntKind.u64 (p.F1_1 j)]) i) = true) ∧ ∀ (i : Nat), scpL (0:Nat) ((fun (j : Nat) => [SV.int IntKind.u64 (s.F2_0 j), SV.int IntKind.u64 (s.F2_1 j)]) i) = true) ∧ (∀ (i : Nat), i < p.N0 → (fun (j : Nat) => [SV.int IntKind.u64 (p.F0_0 j), SV.int IntKind.u64 (p.F0_1 j)]) i = elC (fun (j : Nat) => [SV.int IntKind.u64 (p.F0_0 j), SV.int IntKind.u64 (p.F0_1 j)]) (0:Nat) [Ck.int IntKind.u64, Ck.int IntKind.u64] i) ∧ (∀ (i : Nat), i < p.N1 → (fun (j : Nat) => [SV.int IntKind.u64 (p.F1_0 j), SV.int IntKind.u64 (p.F1_1 j)]) i = elC (fun (j : Nat) => [SV.int IntKind.u64 (p.F1_0 j), SV.int IntKind.u64 (p.F1_1 j)]) (0:Nat) [Ck.int IntKind.u64, Ck.int IntKind.u64] i) ∧ ∀ (i : Nat), i < s.N2 → (fun (j : Nat) => [SV.int IntKind.u64 (s.F2_0 j), SV.int IntKind.u64 (s.F2_1 j)]) i = elC (fun (j : Nat) => [SV.int IntKind.u64 (s.F2_0 j), SV.int IntKind.u64 (s.F2_1 j)]) (0:Nat) [Ck.int IntKind.u64, Ck.int IntKind.u64] i
theorem n_e29_0_1 (p : P29_0) (s : S29_0) : e29_0_1 p s := by
  unfold e29_0_1
  first
    | (intros; rfl)
    | (intro i; rfl)
    | (intro i _; rfl)
    | (intro _ i; rfl)
    | (intro _ i _; rfl)
    | (refine ⟨?_, ?_⟩ <;> intro i <;> rfl)
    | (refine ⟨?_, ?_, ?_⟩ <;> intro i <;> rfl)
    | (refine ⟨?_, ?_⟩ <;> intro i _ <;> rfl)
    | (repeat' apply And.intro) <;> first | (intro i; rfl) | (intro i _; rfl) | (intro i h; exact absurd h (Nat.not_lt_zero i)) | (intro i; exact scpL_rowSet (by rfl) (by rfl)) | (intro i; exact scpL_rowEl (by kernel_rfl) _)
    | (intros; (repeat' apply And.intro) <;> intros <;> first | rfl | (exact absurd (by assumption) (Nat.not_lt_zero _)))
    | omega
    | decide
theorem n_e29_0_6 (p : P29_0) (s : S29_0) : e29_0_6 p s := by
  unfold e29_0_6
  first
    | (intros; rfl)
    | (intro i; rfl)
    | (intro i _; rfl)
    | (intro _ i; rfl)
    | (intro _ i _; rfl)
    | (refine ⟨?_, ?_⟩ <;> intro i <;> rfl)
    | (refine ⟨?_, ?_, ?_⟩ <;> intro i <;> rfl)
    | (refine ⟨?_, ?_⟩ <;> intro i _ <;> rfl)
    | (repeat' apply And.intro) <;> first | (intro i; rfl) | (intro i _; rfl) | (intro i h; exact absurd h (Nat.not_lt_zero i)) | (intro i; exact scpL_rowSet (by rfl) (by rfl)) | (intro i; exact scpL_rowEl (by kernel_rfl) _)
    | (intros; (repeat' apply And.intro) <;> intros <;> first | rfl | (exact absurd (by assumption) (Nat.not_lt_zero _)))
    | omega
    | decide
theorem n_e29_0_11 (p : P29_0) (s : S29_0) : e29_0_11 p s := by
  unfold e29_0_11
  first
    | (intros; rfl)
    | (intro i; rfl)
    | (intro i _; rfl)
    | (intro _ i; rfl)
    | (intro _ i _; rfl)
    | (refine ⟨?_, ?_⟩ <;> intro i <;> rfl)
    | (refine ⟨?_, ?_, ?_⟩ <;> intro i <;> rfl)
    | (refine ⟨?_, ?_⟩ <;> intro i _ <;> rfl)
    | (repeat' apply And.intro) <;> first | (intro i; rfl) | (intro i _; rfl) | (intro i h; exact absurd h (Nat.not_lt_zero i)) | (intro i; exact scpL_rowSet (by rfl) (by rfl)) | (intro i; exact scpL_rowEl (by kernel_rfl) _)
    | (intros; (repeat' apply And.intro) <;> intros <;> first | rfl | (exact absurd (by assumption) (Nat.not_lt_zero _)))
    | omega
    | decide
noncomputable def rf29_0 (p : P29_0) (s : S29_0) : Tr (Rs th.R S29_0) := (Tr.ite (e29_0_0 p s) (Tr.need (e29_0_1 p s) (Tr.leaf (Rs.out (Ex.exit ((0:Nat))) (none :: (none :: (none :: (List.cons (Option.some (SV.slc (2) ((2 : Nat)) ((0:Nat)) (s.n3))) (none :: (none :: (none :: (none :: (none :: (none :: (none :: (none :: (none :: (none :: (none :: (none :: (none :: (none :: (none :: (none :: (none :: []))))))))))))))))))))) (List.cons (HO.ro ((27 : Nat)) ((2 : Nat)) (p.N0) (fun j => (List.cons (SV.int (IntKind.u64) (p.F0_0 j)) (List.cons (SV.int (IntKind.u64) (p.F0_1 j)) []))) (p.O0)) (List.cons (HO.row ((29 : Nat)) ((2 : Nat)) (p.N1) (fun j => (List.cons (SV.int (IntKind.u64) (p.F1_0 j)) (List.cons (SV.int (IntKind.u64) (p.F1_1 j)) [])))) (List.cons (HO.row ((29 : Nat)) ((2 : Nat)) (s.N2) (fun j => (List.cons (SV.int (IntKind.u64) (s.F2_0 j)) (List.cons (SV.int (IntKind.u64) (s.F2_1 j)) [])))) [])))))) (Tr.need (e29_0_2 p s) (Tr.need (e29_0_3 p s) (Tr.need (e29_0_4 p s) (Tr.ite (e29_0_5 p s) (Tr.need (e29_0_6 p s) (Tr.leaf (Rs.on (S29_0.mk ((e29_0_7 p s)) ((e29_0_8 p s)) ((e29_0_7 p s)) ((fun j => (e29_0_9 p s j))) ((fun j => (e29_0_10 p s j))))))) (Tr.need (e29_0_11 p s) (Tr.leaf (Rs.on (S29_0.mk (s.n3) ((e29_0_8 p s)) (s.N2) (s.F2_0) (s.F2_1))))))))))
noncomputable def r29_0 (p : P29_0) (s : S29_0) : Tr (Rs th.R S29_0) := (Tr.ite (e29_0_0 p s) (Tr.leaf (Rs.out (Ex.exit ((0:Nat))) (none :: (none :: (none :: (List.cons (Option.some (SV.slc (2) ((2 : Nat)) ((0:Nat)) (s.n3))) (none :: (none :: (none :: (none :: (none :: (none :: (none :: (none :: (none :: (none :: (none :: (none :: (none :: (none :: (none :: (none :: (none :: []))))))))))))))))))))) (List.cons (HO.ro ((27 : Nat)) ((2 : Nat)) (p.N0) (fun j => (List.cons (SV.int (IntKind.u64) (p.F0_0 j)) (List.cons (SV.int (IntKind.u64) (p.F0_1 j)) []))) (p.O0)) (List.cons (HO.row ((29 : Nat)) ((2 : Nat)) (p.N1) (fun j => (List.cons (SV.int (IntKind.u64) (p.F1_0 j)) (List.cons (SV.int (IntKind.u64) (p.F1_1 j)) [])))) (List.cons (HO.row ((29 : Nat)) ((2 : Nat)) (s.N2) (fun j => (List.cons (SV.int (IntKind.u64) (s.F2_0 j)) (List.cons (SV.int (IntKind.u64) (s.F2_1 j)) [])))) []))))) (Tr.need (e29_0_2 p s) (Tr.need (e29_0_3 p s) (Tr.need (e29_0_4 p s) (Tr.ite (e29_0_5 p s) (Tr.leaf (Rs.on (S29_0.mk ((e29_0_7 p s)) ((e29_0_8 p s)) ((e29_0_7 p s)) ((fun j => (e29_0_9 p s j))) ((fun j => (e29_0_10 p s j)))))) (Tr.leaf (Rs.on (S29_0.mk (s.n3) ((e29_0_8 p s)) (s.N2) (s.F2_0) (s.F2_1)))))))))
noncomputable def E29_0 : St th.R → Out th := evCode th Try.prog (auto th Try.prog nice19n [] 20) (autoH [] [] [] [2, 3, 20] : Hints th) (lpAt Try.prog 29 0)
theorem B29_0 : CodeSound th Try.prog (lpAt Try.prog 29 0) E29_0 := evCode_sound (T := th) (P := Try.prog) (tbl := (auto th Try.prog nice19n [] 20)) (auto_sound (nice := nice19n) (us := []) nok19n 20) (autoH [] [] [] [2, 3, 20] : Hints th) _ (LoopsOk_mem (fun _ => rfl) _ fun b hb L hL => by cases hL)
noncomputable def L29_0 : St th.R → Out th := loopL d29_0 ofV29_0 r29_0
theorem h1_29_0 (p : P29_0) (s : S29_0) : bld d29_0.tm (toV29_0 p s) = some (I29_0 p s) := by kernel_rfl
theorem h2_29_0 (l : List (Vl th.R)) (p : P29_0) (s : S29_0) (h : ofV29_0 l = some (p, s)) : l = toV29_0 p s := by
  unfold ofV29_0 at h
  split at h
  · cases h; rfl
  · cases h
theorem h3_29_0 (p : P29_0) (s : S29_0) : cvE d29_0 (E29_0 (I29_0 p s)) = some ((rf29_0 p s).map (Rs.map (toV29_0 p))) := by kernel_rfl
theorem h3g_29_0 (p : P29_0) (s : S29_0) : (rf29_0 p s).get = (r29_0 p s).get := by kernel_rfl
theorem h4_29_0 (p : P29_0) (s s1 : S29_0) : outH d29_0.dirt d29_0.n0 (r29_0 p s) = repH (maskH d29_0.dirt 0 d29_0.n0 (I29_0 p s1).heap) (r29_0 p s) := by kernel_rfl
theorem ls29_0 : CodeSound th Try.prog (.loop (lpAt Try.prog 29 0)) L29_0 := loopL_sound B29_0 d29_0 I29_0 toV29_0 (by kernel_rfl) h1_29_0 h2_29_0
  (fun p s => ⟨(rf29_0 p s).map (Rs.map (toV29_0 p)), h3_29_0 p s, fun h => by
    rw [Tr.map_ok]
    unfold r29_0 at h; unfold rf29_0
    simp only [Tr.ok, n_e29_0_1, n_e29_0_6, n_e29_0_11, true_and, and_true, forall_const, implies_true] at h ⊢
    try exact h, by rw [Tr.map_get, h3g_29_0 p s]⟩) h4_29_0
theorem ok29 : LoopsOk th Try.prog (autoH [(3, L29_0)] [] [] [2, 3, 20] : Hints th) (bodyOf Try.prog 29) := autoH_ok (bs := [lpAt Try.prog 29 0]) (by kernel_rfl) fun b hb L hL => by
  simp only [List.mem_cons, List.not_mem_nil, or_false] at hb
  rcases hb with rfl
  · have e : lookL [(3, L29_0)] (firstReg (lpAt Try.prog 29 0)) = some L29_0 := by kernel_rfl
    rw [e] at hL; cases hL
    exact ls29_0
noncomputable def f29_0 (v : V29) : (Prop) := ∀ (i : Nat), scpL (0:Nat) ((fun (j : Nat) => [SV.int IntKind.u64 (v.F j), SV.int IntKind.u64 (v.G j)]) i) = true
noncomputable def f29_1 (v : V29) : (Prop) := ∀ (i : Nat), i < v.M → (fun (j : Nat) => [SV.int IntKind.u64 (v.F j), SV.int IntKind.u64 (v.G j)]) i = elC (fun (j : Nat) => [SV.int IntKind.u64 (v.F j), SV.int IntKind.u64 (v.G j)]) (0:Nat) [Ck.int IntKind.u64, Ck.int IntKind.u64] i
noncomputable def f29_2 (v : V29) : (Prop) := pre19 (V19.mk v.L v.M v.ob v.F v.G)
noncomputable def f29_3 (v : V29) : (Prop) := (∀ (i : Nat), scpL (0:Nat) ((fun (j : Nat) => [SV.int IntKind.u64 (v.F j), SV.int IntKind.u64 (v.G j)]) i) = true) ∧ ∀ (i : Nat), scpL (0:Nat) ((fun (j : Nat) => [SV.int IntKind.u64 (v.F j), SV.int IntKind.u64 (v.G j)]) i) = true
noncomputable def f29_4 (v : V29) : (Prop) := (∀ (i : Nat), i < v.M → (fun (j : Nat) => [SV.int IntKind.u64 (v.F j), SV.int IntKind.u64 (v.G j)]) i = elC (fun (j : Nat) => [SV.int IntKind.u64 (v.F j), SV.int IntKind.u64 (v.G j)]) (0:Nat) [Ck.int IntKind.u64, Ck.int IntKind.u64] i) ∧ (∀ (i : Nat), i < v.L → (fun (j : Nat) => [SV.int IntKind.u64 (v.F j), SV.int IntKind.u64 (v.G j)]) i = elC (fun (j : Nat) => [SV.int IntKind.u64 (v.F j), SV.int IntKind.u64 (v.G j)]) (0:Nat) [Ck.int IntKind.u64, Ck.int IntKind.u64] i) ∧ ∀ (i : Nat), i < (0:Nat) → (fun (j : Nat) => []) i = elC (fun (j : Nat) => []) (0:Nat) [Ck.int IntKind.u64, Ck.int IntKind.u64] i
noncomputable def f29_5 (v : V29) : (Prop) := LT (r29_0 (P29_0.mk v.L (↑v.L : Int) v.M v.ob v.F v.G v.L v.F v.G)) (S29_0.mk (0:Nat) (0 : Int) (0:Nat) (colI (fun (j : Nat) => []) (0:Nat)) (colI (fun (j : Nat) => []) (1 : Nat)))
noncomputable def f29z0 (v : V29) : S29_0 := lastS (r29_0 (P29_0.mk v.L (↑v.L : Int) v.M v.ob v.F v.G v.L v.F v.G)) (S29_0.mk (0:Nat) (0 : Int) (0:Nat) (colI (fun (j : Nat) => []) (0:Nat)) (colI (fun (j : Nat) => []) (1 : Nat)))
noncomputable def f29_6 (v : V29) : (Nat) := (f29z0 v).n3
noncomputable def f29_7 (v : V29) : (Nat) := (f29z0 v).N2
noncomputable def f29_8 (v : V29) : Nat → (Int) := fun j => (f29z0 v).F2_0 j
noncomputable def f29_9 (v : V29) : Nat → (Int) := fun j => (f29z0 v).F2_1 j
theorem n_f29_0 (v : V29) : f29_0 v := by
  unfold f29_0
  first
    | (intros; rfl)
    | (intro i; rfl)
    | (intro i _; rfl)
    | (intro _ i; rfl)
    | (intro _ i _; rfl)
    | (refine ⟨?_, ?_⟩ <;> intro i <;> rfl)
    | (refine ⟨?_, ?_, ?_⟩ <;> intro i <;> rfl)
    | (refine ⟨?_, ?_⟩ <;> intro i _ <;> rfl)
    | (repeat' apply And.intro) <;> first | (intro i; rfl) | (intro i _; rfl) | (intro i h; exact absurd h (Nat.not_lt_zero i)) | (intro i; exact scpL_rowSet (by rfl) (by rfl)) | (intro i; exact scpL_rowEl (by kernel_rfl) _)
    | (intros; (repeat' apply And.intro) <;> intros <;> first | rfl | (exact absurd (by assumption) (Nat.not_lt_zero _)))
    | omega
    | decide
theorem n_f29_1 (v : V29) : f29_1 v := by
  unfold f29_1
  first
    | (intros; rfl)
    | (intro i; rfl)
    | (intro i _; rfl)
    | (intro _ i; rfl)
    | (intro _ i _; rfl)
    | (refine ⟨?_, ?_⟩ <;> intro i <;> rfl)
    | (refine ⟨?_, ?_, ?_⟩ <;> intro i <;> rfl)
    | (refine ⟨?_, ?_⟩ <;> intro i _ <;> rfl)
    | (repeat' apply And.intro) <;> first | (intro i; rfl) | (intro i _; rfl) | (intro i h; exact absurd h (Nat.not_lt_zero i)) | (intro i; exact scpL_rowSet (by rfl) (by rfl)) | (intro i; exact scpL_rowEl (by kernel_rfl) _)
    | (intros; (repeat' apply And.intro) <;> intros <;> first | rfl | (exact absurd (by assumption) (Nat.not_lt_zero _)))
    | omega
    | decide
theorem n_f29_3 (v : V29) : f29_3 v := by
  unfold f29_3
  first
    | (intros; rfl)
    | (intro i; rfl)
    | (intro i _; rfl)
    | (intro _ i; rfl)
    | (intro _ i _; rfl)
    | (refine ⟨?_, ?_⟩ <;> intro i <;> rfl)
    | (refine ⟨?_, ?_, ?_⟩ <;> intro i <;> rfl)
    | (refine ⟨?_, ?_⟩ <;> intro i _ <;> rfl)
    | (repeat' apply And.intro) <;> first | (intro i; rfl) | (intro i _; rfl) | (intro i h; exact absurd h (Nat.not_lt_zero i)) | (intro i; exact scpL_rowSet (by rfl) (by rfl)) | (intro i; exact scpL_rowEl (by kernel_rfl) _)
    | (intros; (repeat' apply And.intro) <;> intros <;> first | rfl | (exact absurd (by assumption) (Nat.not_lt_zero _)))
    | omega
    | decide
theorem n_f29_4 (v : V29) : f29_4 v := by
  unfold f29_4
  first
    | (intros; rfl)
    | (intro i; rfl)
    | (intro i _; rfl)
    | (intro _ i; rfl)
    | (intro _ i _; rfl)
    | (refine ⟨?_, ?_⟩ <;> intro i <;> rfl)
    | (refine ⟨?_, ?_, ?_⟩ <;> intro i <;> rfl)
    | (refine ⟨?_, ?_⟩ <;> intro i _ <;> rfl)
    | (repeat' apply And.intro) <;> first | (intro i; rfl) | (intro i _; rfl) | (intro i h; exact absurd h (Nat.not_lt_zero i)) | (intro i; exact scpL_rowSet (by rfl) (by rfl)) | (intro i; exact scpL_rowEl (by kernel_rfl) _)
    | (intros; (repeat' apply And.intro) <;> intros <;> first | rfl | (exact absurd (by assumption) (Nat.not_lt_zero _)))
    | omega
    | decide
noncomputable def ff29 (v : V29) : Tr (Fin th.R) := (Tr.need (f29_0 v) (Tr.need (f29_1 v) (Tr.need (f29_2 v) (Tr.need (f29_3 v) (Tr.need (f29_4 v) (Tr.need (f29_5 v) (Tr.leaf (Prod.mk (SV.slc ((2 : Nat)) ((2 : Nat)) ((0:Nat)) (f29_6 v)) (Prod.mk (List.cons (HO.ro ((27 : Nat)) ((2 : Nat)) (v.M) (fun j => (List.cons (SV.int (IntKind.u64) (v.F j)) (List.cons (SV.int (IntKind.u64) (v.G j)) []))) (v.ob)) (List.cons (HO.row ((29 : Nat)) ((2 : Nat)) (v.L) (fun j => (List.cons (SV.int (IntKind.u64) (v.F j)) (List.cons (SV.int (IntKind.u64) (v.G j)) [])))) (List.cons (HO.row ((29 : Nat)) ((2 : Nat)) (f29_7 v) (fun j => (List.cons (SV.int (IntKind.u64) (f29_8 v j)) (List.cons (SV.int (IntKind.u64) (f29_9 v j)) [])))) []))) [])))))))))
noncomputable def f29 (v : V29) : Tr (Fin th.R) := (Tr.need (f29_2 v) (Tr.need (f29_5 v) (Tr.leaf (Prod.mk (SV.slc ((2 : Nat)) ((2 : Nat)) ((0:Nat)) (f29_6 v)) (Prod.mk (List.cons (HO.ro ((27 : Nat)) ((2 : Nat)) (v.M) (fun j => (List.cons (SV.int (IntKind.u64) (v.F j)) (List.cons (SV.int (IntKind.u64) (v.G j)) []))) (v.ob)) (List.cons (HO.row ((29 : Nat)) ((2 : Nat)) (v.L) (fun j => (List.cons (SV.int (IntKind.u64) (v.F j)) (List.cons (SV.int (IntKind.u64) (v.G j)) [])))) (List.cons (HO.row ((29 : Nat)) ((2 : Nat)) (f29_7 v) (fun j => (List.cons (SV.int (IntKind.u64) (f29_8 v j)) (List.cons (SV.int (IntKind.u64) (f29_9 v j)) [])))) []))) ([]))))))
noncomputable def C29 : CF th.R := fnC d29 ofV29 (f29 )
theorem q29 (v : V29) : (evFn th Try.prog (auto th Try.prog nice19n [] 20) (autoH [(3, L29_0)] [] [] [2, 3, 20] : Hints th) 29) (A29 v) (H29 v) = some (ff29 v) := by kernel_rfl
theorem qg29 (v : V29) : ((ff29 v).map (setD [])).get = (f29 v).get := by kernel_rfl
theorem qd29 (v : V29) : allD 1 [] (ff29 v) = true := by kernel_rfl
theorem s29 : Sound Try.prog th 29 (C29 ) := fnC_sound (evFn_sound' (T := th) (P := Try.prog) (tbl := (auto th Try.prog nice19n [] 20)) (auto_sound (nice := nice19n) (us := []) nok19n 20) (H := (autoH [(3, L29_0)] [] [] [2, 3, 20] : Hints th)) (k := 29) (fnLoops ok29)) d29 A29 H29 toV29 (by kernel_rfl) (fun v => by kernel_rfl)
  (fun l v h => by
    unfold ofV29 at h
    split at h
    · cases h; rfl
    · cases h)
  [] (fun v => ⟨ff29 v, q29 v, fun h => by
    unfold f29 at h; unfold ff29
    simp only [Tr.ok, n_f29_0, n_f29_1, n_f29_3, n_f29_4, true_and, and_true, forall_const, implies_true] at h ⊢
    try exact h, qg29 v, qd29 v⟩)
theorem qdd29 (v : V29) : (f29 v).get.2.2 = [] := by
  rw [← qg29, Tr.map_get]; rfl
end Go.Sx.S

namespace Go.Sx.S
open Go Go.Sx Go.Proofs Go.RowKit
set_option maxRecDepth 100000
open So
def pre29 (v : V29) : Prop := v.L ≤ v.M ∧ v.L ≤ 1000000000
theorem l29 {L M : Nat} {F G F' G' : Nat → Int} {ob : Obj} (hL : L ≤ 1000000000) :
    LT (r29_0 (P29_0.mk L (L : Int) M ob F G L F G)) (S29_0.mk 0 0 0 F' G') ∧
      (fun s : S29_0 => s.N2 = s.n3 ∧ seg (sp s.F2_0 s.F2_1) 0 s.n3 = flt (sp F G) L) (lastS (r29_0 (P29_0.mk L (L : Int) M ob F G L F G)) (S29_0.mk 0 0 0 F' G')) := by
  refine LT.post (fun s : S29_0 => ∃ i : Nat, s.x9 = i ∧ i ≤ L ∧ s.N2 = s.n3 ∧ s.n3 ≤ i ∧ seg (sp s.F2_0 s.F2_1) 0 s.n3 = flt (sp F G) i)
    (fun s : S29_0 => s.N2 = s.n3 ∧ seg (sp s.F2_0 s.F2_1) 0 s.n3 = flt (sp F G) L) (fun s : S29_0 => (L - s.x9).toNat) ?_ ?_
  rotate_left
  · exact ⟨0, rfl, Nat.zero_le _, rfl, Nat.le_refl _, rfl⟩
  rintro ⟨m, x, N2, A, B⟩ ⟨i, g1, g2, g3, g4, g5⟩
  simp only at g1 g3 g4 g5
  subst g1
  have w2 : IntKind.i64.wrap ((i : Int) + 1) = ((i + 1 : Nat) : Int) := by rw [wi (by omega) (by omega)]; omega
  have dec : f12_0 (F i) (G i) = decide (F i < G i) := right_dec (sp F G i)
  have st := flt_succ (sp F G) i
  simp only [r29_0, e29_0_0, e29_0_2, e29_0_3, e29_0_4, e29_0_5, e29_0_7, e29_0_8, e29_0_9, e29_0_10, Tr.ok, Tr.get, w2, Nat.zero_add, Int.toNat_natCast, dec]
  by_cases hc : i < L
  · have hd : cnd (decide ((i : Int) < (L : Int))) false true = false := by rw [decide_eq_true (by omega)]; rfl
    rw [hd]
    by_cases hm : F i < G i
    · rw [decide_eq_true hm]
      rw [if_pos (show rgt (sp F G i) = true from decide_eq_true hm), ← g5] at st
      refine ⟨⟨(fun e => by cases e), fun _ => ?_⟩, .inr ⟨_, rfl, ⟨i + 1, rfl, by omega, rfl, by show m + 1 ≤ i + 1; omega, (seg_push27 (x := (F i, G i))).trans st.symm⟩, by simp only [w2]; omega⟩⟩
      (repeat' apply And.intro) <;> intros <;> (repeat' apply And.intro) <;> intros <;> first | trivial | omega
    · rw [decide_eq_false hm]
      rw [if_neg (show ¬ rgt (sp F G i) = true from fun e => hm (of_decide_eq_true e)), List.append_nil, ← g5] at st
      refine ⟨⟨(fun e => by cases e), fun _ => ?_⟩, .inr ⟨_, rfl, ⟨i + 1, rfl, by omega, g3, by show m ≤ i + 1; omega, st.symm⟩, by simp only [w2]; omega⟩⟩
      (repeat' apply And.intro) <;> intros <;> (repeat' apply And.intro) <;> intros <;> first | trivial | omega | contradiction
  · have hd : cnd (decide ((i : Int) < (L : Int))) false true = true := by rw [decide_eq_false (by omega)]; rfl
    have : i = L := by omega
    subst this
    rw [hd]
    exact ⟨⟨fun _ => trivial, (fun e => by cases e)⟩, .inl ⟨⟨_, _, _, rfl⟩, g3, g5⟩⟩
theorem n29 (v : V29) (h : pre29 v) : (f29 v).ok ∧ (f29 v).get.1 = .slc 2 2 0 (flt (sp v.F v.G) v.L).length ∧
    HOws (f29 v).get.2.1 [HO.ro 27 2 v.M (fun j => [SV.int .u64 (v.F j), SV.int .u64 (v.G j)]) v.ob, HO.row 29 2 v.L (fun j => [SV.int .u64 (v.F j), SV.int .u64 (v.G j)]), rowR (flt (sp v.F v.G) v.L).length (gt (flt (sp v.F v.G) v.L))] := by
  cases v with
  | mk L M ob F G =>
  obtain ⟨h1, h2⟩ : L ≤ M ∧ L ≤ 1000000000 := h
  obtain ⟨k1, k2, k3⟩ := l29 (M := M) (F := F) (G := G) (F' := colI (fun j => []) 0) (G' := colI (fun j => []) 1) (ob := ob) h2
  have k3 : seg (sp (f29z0 (V29.mk L M ob F G)).F2_0 (f29z0 (V29.mk L M ob F G)).F2_1) 0 (f29z0 (V29.mk L M ob F G)).n3 = flt (sp F G) L := k3
  have k4 : (f29z0 (V29.mk L M ob F G)).n3 = (flt (sp F G) L).length := by rw [← k3, seg_length]
  have k2 : (f29z0 (V29.mk L M ob F G)).N2 = (flt (sp F G) L).length := Eq.trans k2 k4
  refine ⟨⟨⟨h1, by show L ≤ 30000000000; omega⟩, k1, trivial⟩, congrArg (SV.slc 2 2 0) k4, ?_⟩
  show HOws [_, _, HO.row 29 2 (f29z0 (V29.mk L M ob F G)).N2 _] _
  rw [k2]
  refine .cons (.refl _) (.cons (.refl _) (.cons (.row fun i hi => ?_) .nil))
  have := gt_of k3 i (by omega)
  show [SV.int .u64 _, SV.int .u64 _] = [SV.int .u64 _, SV.int .u64 _]
  rw [this]
  rfl
noncomputable def f29n (v : V29) : Tr (Fin th.R) := .need (pre29 v) (.leaf (.slc 2 2 0 (So.flt (sp v.F v.G) v.L).length, [.ro 27 2 v.M (fun j => [.int .u64 (v.F j), .int .u64 (v.G j)]) v.ob, .row 29 2 v.L (fun j => [.int .u64 (v.F j), .int .u64 (v.G j)]), rowR (So.flt (sp v.F v.G) v.L).length (So.gt (So.flt (sp v.F v.G) v.L))], []))
theorem s29n : Sound Try.prog th 29 (fnC d29 ofV29 f29n) := fnC_refine s29 fun v h => by
  obtain ⟨hp, _⟩ := h
  obtain ⟨a, b, c⟩ := n29 v hp
  exact ⟨a, b.symm, (qdd29 v).symm, c, by show 1 ≤ 3; decide⟩
structure V29w where
  L : Nat
  M : Nat
  F : Nat → Int
  G : Nat → Int
def inj29 (v : V29w) (o : Obj) : V29 := ⟨v.L, v.M, o, v.F, v.G⟩
def A29w (v : V29w) : List SV := [.slc 0 2 0 v.L]
def H29w (v : V29w) : List (HO th.R) := [.row 27 2 v.M (fun j => [.int .u64 (v.F j), .int .u64 (v.G j)])]
def toV29w (v : V29w) : List (Vl th.R) := [.n v.L, .n v.M, .c v.F, .c v.G]
def ofV29w : List (Vl th.R) → Option V29w
  | [.n L, .n M, .c F, .c G] => some ⟨L, M, F, G⟩
  | _ => none
def d29w : Ft := ⟨[.slc0 0 2], [.rowc 27 [.int .u64, .int .u64]]⟩
noncomputable def f29w (v : V29w) : Tr (Fin th.R) := .need (pre29 (inj29 v (.cells #[] 0))) (.leaf (.slc 2 2 0 (So.flt (sp (inj29 v (.cells #[] 0)).F (inj29 v (.cells #[] 0)).G) (inj29 v (.cells #[] 0)).L).length, [.row 27 2 v.M (fun j => [.int .u64 (v.F j), .int .u64 (v.G j)]), .row 29 2 (inj29 v (.cells #[] 0)).L (fun j => [.int .u64 ((inj29 v (.cells #[] 0)).F j), .int .u64 ((inj29 v (.cells #[] 0)).G j)]), rowR (So.flt (sp (inj29 v (.cells #[] 0)).F (inj29 v (.cells #[] 0)).G) (inj29 v (.cells #[] 0)).L).length (So.gt (So.flt (sp (inj29 v (.cells #[] 0)).F (inj29 v (.cells #[] 0)).G) (inj29 v (.cells #[] 0)).L))], []))
theorem cw29 (v : V29w) (o : Obj) : fnC d29 ofV29 f29n (A29 (inj29 v o)) (H29 (inj29 v o)) = some (.need (∀ i, i < v.M → (fun j => [.int .u64 (v.F j), .int .u64 (v.G j)] : Nat → List SV) i = elC (fun j => [.int .u64 (v.F j), .int .u64 (v.G j)] : Nat → List SV) 0 [.int .u64, .int .u64] i) ((f29n (inj29 v o)).map (fixF (H29 (inj29 v o))))) := by kernel_rfl
theorem s29w : Sound Try.prog th 29 (fnC d29w ofV29w f29w) := by
  refine fnC_direct (T := th) d29w A29w H29w toV29w (by kernel_rfl) (fun v => by kernel_rfl) ?_ ?_ (fun v _ => Nat.le_add_left _ _) (fun v _ n hn _ => ?_)
  · intro l v h
    unfold ofV29w at h
    split at h
    · cases h; rfl
    · cases h
  · intro v hok K w0 ρ w vargs I hr
    obtain ⟨hp, _⟩ := hok
    exact ro_row (tl := [.row 29 2 (inj29 v (.cells #[] 0)).L (fun j => [.int .u64 ((inj29 v (.cells #[] 0)).F j), .int .u64 ((inj29 v (.cells #[] 0)).G j)]), rowR (So.flt (sp (inj29 v (.cells #[] 0)).F (inj29 v (.cells #[] 0)).G) (inj29 v (.cells #[] 0)).L).length (So.gt (So.flt (sp (inj29 v (.cells #[] 0)).F (inj29 v (.cells #[] 0)).G) (inj29 v (.cells #[] 0)).L))]) (val := .slc 2 2 0 (So.flt (sp (inj29 v (.cells #[] 0)).F (inj29 v (.cells #[] 0)).G) (inj29 v (.cells #[] 0)).L).length) (fun o K w0 ρ w vargs I hr => fnC_out s29n (cw29 v o) ⟨fun i _ => rfl, hp, trivial⟩ I hr) I hr
  · have hn : n < 1 := hn
    have : n = 0 := by omega
    subst this; rfl
noncomputable def nice29n : List (Nat × CF th.R) := (29, lift (orC (fnC d29 ofV29 f29n) (fnC d29w ofV29w f29w))) :: nice19n
theorem nok29n : NiceOk Try.prog th nice29n := ⟨lift_sound (orC_sound s29n s29w), nok19n⟩
end Go.Sx.S

