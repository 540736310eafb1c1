/- Contracts of the functions of this seat, each by the executor and the kernel; part 4. Their conditions stand in each. -/
import Derived.Test.YtdeaddkppjdacaaC3
set_option linter.unusedVariables false
set_option linter.unusedSimpArgs false
namespace Go.Sx.S
open Go Go.Sx Go.Proofs Go.RowKit
set_option maxRecDepth 100000
structure V19 where
  L : Nat
  M : Nat
  ob : Obj
  F : Nat → Int
  G : Nat → Int
def A19 (v : V19) : List SV := [.slc 0 2 0 v.L]
def H19 (v : V19) : List (HO th.R) := [.ro 27 2 v.M (fun j => [.int .u64 (v.F j), .int .u64 (v.G j)]) v.ob]
def toV19 (v : V19) : List (Vl th.R) := [.n v.L, .n v.M, .o v.ob, .c v.F, .c v.G]
def ofV19 : List (Vl th.R) → Option V19
  | [.n L, .n M, .o ob, .c F, .c G] => some ⟨L, M, ob, F, G⟩
  | _ => none
def d19 : Ft := ⟨[.slc0 0 2], [.roc 27 [.int .u64, .int .u64]]⟩
structure P19_0 where
  n6 : Nat
  x7 : Int
  N0 : Nat
  O0 : Obj
  F0_0 : Nat → Int
  F0_1 : Nat → Int
structure S19_0 where
  n3 : Nat
  x8 : Int
  N1 : Nat
  F1_0 : Nat → Int
  F1_1 : Nat → Int
instance : Inhabited S19_0 := ⟨⟨0, 0, 0, fun _ => 0, fun _ => 0⟩⟩
def I19_0 (p : P19_0) (s : S19_0) : St th.R := ⟨[none, none, none, some (.slc 1 2 0 s.n3), none, none, some (.slc 0 2 0 p.n6), some (.int .i64 p.x7), some (.int .i64 s.x8), none, none, none, none, none, none, none, none, none], [.ro 27 2 p.N0 (fun j => [.int .u64 (p.F0_0 j), .int .u64 (p.F0_1 j)]) p.O0, .row 29 2 s.N1 (fun j => [.int .u64 (s.F1_0 j), .int .u64 (s.F1_1 j)])], [], []⟩
def d19_0 : Lp := ⟨⟨18, [(3, .slc0 1 2), (6, .slc0 0 2), (7, .int .i64), (8, .int .i64)], [.roc 27 [.int .u64, .int .u64], .rowc 29 [.int .u64, .int .u64]]⟩, [⟨3, 29, 2⟩], 1, [], [3], []⟩
def toV19_0 (p : P19_0) (s : S19_0) : List (Vl th.R) := [.n s.n3, .n p.n6, .i p.x7, .i s.x8, .n p.N0, .o p.O0, .c p.F0_0, .c p.F0_1, .n s.N1, .c s.F1_0, .c s.F1_1]
def ofV19_0 : List (Vl th.R) → Option (P19_0 × S19_0)
  | [.n n3, .n n6, .i x7, .i x8, .n N0, .o O0, .c F0_0, .c F0_1, .n N1, .c F1_0, .c F1_1] => some (⟨n6, x7, N0, O0, F0_0, F0_1⟩, ⟨n3, x8, N1, F1_0, F1_1⟩)
  | _ => none
noncomputable def e19_0_0 (p : P19_0) (s : S19_0) : (Bool) := cnd (decide (s.x8 < p.x7)) false true
noncomputable def e19_0_1 (p : P19_0) (s : S19_0) : (Prop) := (∀ (i : Nat), scpL (0:Nat) ((fun (j : Nat) => [SV.int IntKind.u64 (p.F0_0 j), SV.int IntKind.u64 (p.F0_1 j)]) i) = true) ∧ ∀ (i : Nat), scpL (0:Nat) ((fun (j : Nat) => [SV.int IntKind.u64 (s.F1_0 j), SV.int IntKind.u64 (s.F1_1 j)]) i) = true
noncomputable def e19_0_2 (p : P19_0) (s : S19_0) : (Prop) := (0 : Int) ≤ s.x8 ∧ s.x8 < (↑p.n6 : Int)
noncomputable def e19_0_3 (p : P19_0) (s : S19_0) : (Prop) := (0:Nat) + s.x8.toNat < p.N0
noncomputable def e19_0_4 (p : P19_0) (s : S19_0) : (Prop) := (0:Nat) = (0:Nat) ∧ s.n3 ≤ s.N1 ∧ (1 : Nat) ≤ (1 : Nat) ∧ (s.n3 + (1 : Nat)) * (4096 : Nat) ≤ (140737488355328 : Nat) ∧ s.n3 + (1 : Nat) ≤ (9223372036854775807 : Nat)
noncomputable def e19_0_5 (p : P19_0) (s : S19_0) : (Prop) := ((∀ (i : Nat), scpL (0:Nat) ((fun (j : Nat) => [SV.int IntKind.u64 (p.F0_0 j), SV.int IntKind.u64 (p.F0_1 j)]) i) = true) ∧ ∀ (i : Nat), scpL (0:Nat) ((fun (i : Nat) => rowSet (i.blt s.n3) ((fun (j : Nat) => [SV.int IntKind.u64 (s.F1_0 j), SV.int IntKind.u64 (s.F1_1 j)]) i) (rowEl (1 : Nat) (2 : Nat) (setMany (List.map (fun (i : Nat) => [SV.int IntKind.u64 (0 : Int), SV.int IntKind.u64 (0 : Int)].getD (i % (2 : Nat)) Inhabited.default) (List.range (2 : Nat))) (0:Nat) (SV.agg (List.take (2 : Nat) (List.drop (0:Nat) (splice [SV.int IntKind.u64 (0 : Int), SV.int IntKind.u64 (0 : Int)] (0:Nat) (SV.agg (List.take (2 : Nat) (List.drop (0:Nat) ((fun (j : Nat) => [SV.int IntKind.u64 (p.F0_0 j), SV.int IntKind.u64 (p.F0_1 j)]) ((0:Nat) + s.x8.toNat))))).cells)))).cells) ((0:Nat) + (i - s.n3)))) i) = true) ∧ (∀ (i : Nat), i < p.N0 → (fun (j : Nat) => [SV.int IntKind.u64 (p.F0_0 j), SV.int IntKind.u64 (p.F0_1 j)]) i = elC (fun (j : Nat) => [SV.int IntKind.u64 (p.F0_0 j), SV.int IntKind.u64 (p.F0_1 j)]) (0:Nat) [Ck.int IntKind.u64, Ck.int IntKind.u64] i) ∧ ∀ (i : Nat), i < s.n3 + (1 : Nat) → (fun (i : Nat) => rowSet (i.blt s.n3) ((fun (j : Nat) => [SV.int IntKind.u64 (s.F1_0 j), SV.int IntKind.u64 (s.F1_1 j)]) i) (rowEl (1 : Nat) (2 : Nat) (setMany (List.map (fun (i : Nat) => [SV.int IntKind.u64 (0 : Int), SV.int IntKind.u64 (0 : Int)].getD (i % (2 : Nat)) Inhabited.default) (List.range (2 : Nat))) (0:Nat) (SV.agg (List.take (2 : Nat) (List.drop (0:Nat) (splice [SV.int IntKind.u64 (0 : Int), SV.int IntKind.u64 (0 : Int)] (0:Nat) (SV.agg (List.take (2 : Nat) (List.drop (0:Nat) ((fun (j : Nat) => [SV.int IntKind.u64 (p.F0_0 j), SV.int IntKind.u64 (p.F0_1 j)]) ((0:Nat) + s.x8.toNat))))).cells)))).cells) ((0:Nat) + (i - s.n3)))) i = elC (fun (i : Nat) => rowSet (i.blt s.n3) ((fun (j : Nat) => [SV.int IntKind.u64 (s.F1_0 j), SV.int IntKind.u64 (s.F1_1 j)]) i) (rowEl (1 : Nat) (2 : Nat) (setMany (List.map (fun (i : Nat) => [SV.int IntKind.u64 (0 : Int), SV.int IntKind.u64 (0 : Int)].getD (i % (2 : Nat)) Inhabited.default) (List.range (2 : Nat))) (0:Nat) (SV.agg (List.take (2 : Nat) (List.drop (0:Nat) (splice [SV.int IntKind.u64 (0 : Int), SV.int IntKind.u64 (0 : Int)] (0:Nat) (SV.agg (List.take (2 : Nat) (List.drop (0:Nat) ((fun (j : Nat) => [SV.int IntKind.u64 (p.F0_0 j), SV.int IntKind.u64 (p.F0_1 j)]) ((0:Nat) + s.x8.toNat))))).cells)))).cells) ((0:Nat) + (i - s.n3)))) (0:Nat) [Ck.int IntKind.u64, Ck.int IntKind.u64] i
noncomputable def e19_0_6 (p : P19_0) (s : S19_0) : (Nat) := s.n3 + (1 : Nat)
noncomputable def e19_0_7 (p : P19_0) (s : S19_0) : (Int) := IntKind.i64.wrap (s.x8 + (1 : Int))
noncomputable def e19_0_8 (p : P19_0) (s : S19_0) : Nat → (Int) := fun j => cnd (j.blt s.n3) (s.F1_0 j) (p.F0_0 ((0:Nat) + s.x8.toNat))
noncomputable def e19_0_9 (p : P19_0) (s : S19_0) : Nat → (Int) := fun j => cnd (j.blt s.n3) (s.F1_1 j) (p.F0_1 ((0:Nat) + s.x8.toNat))
theorem n_e19_0_1 (p : P19_0) (s : S19_0) : e19_0_1 p s := by
  unfold e19_0_1
  first
    | (intros; rfl)
    | (intro i; rfl)
    | (intro i _; rfl)
    | (intro _ i; rfl)
    | (intro _ i _; rfl)
    | (refine ⟨?_, ?_⟩ <;> intro i <;> rfl)
    | (refine ⟨?_, ?_, ?_⟩ <;> intro i <;> rfl)
    | (refine ⟨?_, ?_⟩ <;> intro i _ <;> rfl)
    | (repeat' apply And.intro) <;> first | (intro i; rfl) | (intro i _; rfl) | (intro i h; exact absurd h (Nat.not_lt_zero i)) | (intro i; exact scpL_rowSet (by rfl) (by rfl)) | (intro i; exact scpL_rowEl (by kernel_rfl) _)
    | (intros; (repeat' apply And.intro) <;> intros <;> first | rfl | (exact absurd (by assumption) (Nat.not_lt_zero _)))
    | omega
    | decide
theorem n_e19_0_5 (p : P19_0) (s : S19_0) : e19_0_5 p s := by
  unfold e19_0_5
  first
    | (intros; rfl)
    | (intro i; rfl)
    | (intro i _; rfl)
    | (intro _ i; rfl)
    | (intro _ i _; rfl)
    | (refine ⟨?_, ?_⟩ <;> intro i <;> rfl)
    | (refine ⟨?_, ?_, ?_⟩ <;> intro i <;> rfl)
    | (refine ⟨?_, ?_⟩ <;> intro i _ <;> rfl)
    | (repeat' apply And.intro) <;> first | (intro i; rfl) | (intro i _; rfl) | (intro i h; exact absurd h (Nat.not_lt_zero i)) | (intro i; exact scpL_rowSet (by rfl) (by rfl)) | (intro i; exact scpL_rowEl (by kernel_rfl) _)
    | (intros; (repeat' apply And.intro) <;> intros <;> first | rfl | (exact absurd (by assumption) (Nat.not_lt_zero _)))
    | omega
    | decide
noncomputable def rf19_0 (p : P19_0) (s : S19_0) : Tr (Rs th.R S19_0) := (Tr.ite (e19_0_0 p s) (Tr.need (e19_0_1 p s) (Tr.leaf (Rs.out (Ex.exit ((0:Nat))) (none :: (none :: (none :: (List.cons (Option.some (SV.slc (1) ((2 : Nat)) ((0:Nat)) (s.n3))) (none :: (none :: (none :: (none :: (none :: (none :: (none :: (none :: (none :: (none :: (none :: (none :: (none :: (none :: [])))))))))))))))))) (List.cons (HO.ro ((27 : Nat)) ((2 : Nat)) (p.N0) (fun j => (List.cons (SV.int (IntKind.u64) (p.F0_0 j)) (List.cons (SV.int (IntKind.u64) (p.F0_1 j)) []))) (p.O0)) (List.cons (HO.row ((29 : Nat)) ((2 : Nat)) (s.N1) (fun j => (List.cons (SV.int (IntKind.u64) (s.F1_0 j)) (List.cons (SV.int (IntKind.u64) (s.F1_1 j)) [])))) []))))) (Tr.need (e19_0_2 p s) (Tr.need (e19_0_3 p s) (Tr.need (e19_0_4 p s) (Tr.need (e19_0_5 p s) (Tr.leaf (Rs.on (S19_0.mk ((e19_0_6 p s)) ((e19_0_7 p s)) ((e19_0_6 p s)) ((fun j => (e19_0_8 p s j))) ((fun j => (e19_0_9 p s j)))))))))))
noncomputable def r19_0 (p : P19_0) (s : S19_0) : Tr (Rs th.R S19_0) := (Tr.ite (e19_0_0 p s) (Tr.leaf (Rs.out (Ex.exit ((0:Nat))) (none :: (none :: (none :: (List.cons (Option.some (SV.slc (1) ((2 : Nat)) ((0:Nat)) (s.n3))) (none :: (none :: (none :: (none :: (none :: (none :: (none :: (none :: (none :: (none :: (none :: (none :: (none :: (none :: [])))))))))))))))))) (List.cons (HO.ro ((27 : Nat)) ((2 : Nat)) (p.N0) (fun j => (List.cons (SV.int (IntKind.u64) (p.F0_0 j)) (List.cons (SV.int (IntKind.u64) (p.F0_1 j)) []))) (p.O0)) (List.cons (HO.row ((29 : Nat)) ((2 : Nat)) (s.N1) (fun j => (List.cons (SV.int (IntKind.u64) (s.F1_0 j)) (List.cons (SV.int (IntKind.u64) (s.F1_1 j)) [])))) [])))) (Tr.need (e19_0_2 p s) (Tr.need (e19_0_3 p s) (Tr.need (e19_0_4 p s) (Tr.leaf (Rs.on (S19_0.mk ((e19_0_6 p s)) ((e19_0_7 p s)) ((e19_0_6 p s)) ((fun j => (e19_0_8 p s j))) ((fun j => (e19_0_9 p s j))))))))))
noncomputable def E19_0 : St th.R → Out th := evCode th Try.prog (auto th Try.prog nice36n [] 20) (autoH [] [] [] [2, 3, 17] : Hints th) (lpAt Try.prog 19 0)
theorem B19_0 : CodeSound th Try.prog (lpAt Try.prog 19 0) E19_0 := evCode_sound (T := th) (P := Try.prog) (tbl := (auto th Try.prog nice36n [] 20)) (auto_sound (nice := nice36n) (us := []) nok36n 20) (autoH [] [] [] [2, 3, 17] : Hints th) _ (LoopsOk_mem (fun _ => rfl) _ fun b hb L hL => by cases hL)
noncomputable def L19_0 : St th.R → Out th := loopL d19_0 ofV19_0 r19_0
theorem h1_19_0 (p : P19_0) (s : S19_0) : bld d19_0.tm (toV19_0 p s) = some (I19_0 p s) := by kernel_rfl
theorem h2_19_0 (l : List (Vl th.R)) (p : P19_0) (s : S19_0) (h : ofV19_0 l = some (p, s)) : l = toV19_0 p s := by
  unfold ofV19_0 at h
  split at h
  · cases h; rfl
  · cases h
theorem h3_19_0 (p : P19_0) (s : S19_0) : cvE d19_0 (E19_0 (I19_0 p s)) = some ((rf19_0 p s).map (Rs.map (toV19_0 p))) := by kernel_rfl
theorem h3g_19_0 (p : P19_0) (s : S19_0) : (rf19_0 p s).get = (r19_0 p s).get := by kernel_rfl
theorem h4_19_0 (p : P19_0) (s s1 : S19_0) : outH d19_0.dirt d19_0.n0 (r19_0 p s) = repH (maskH d19_0.dirt 0 d19_0.n0 (I19_0 p s1).heap) (r19_0 p s) := by kernel_rfl
theorem ls19_0 : CodeSound th Try.prog (.loop (lpAt Try.prog 19 0)) L19_0 := loopL_sound B19_0 d19_0 I19_0 toV19_0 (by kernel_rfl) h1_19_0 h2_19_0
  (fun p s => ⟨(rf19_0 p s).map (Rs.map (toV19_0 p)), h3_19_0 p s, fun h => by
    rw [Tr.map_ok]
    unfold r19_0 at h; unfold rf19_0
    simp only [Tr.ok, n_e19_0_1, n_e19_0_5, true_and, and_true, forall_const, implies_true] at h ⊢
    try exact h, by rw [Tr.map_get, h3g_19_0 p s]⟩) h4_19_0
theorem ok19 : LoopsOk th Try.prog (autoH [(3, L19_0)] [] [] [2, 3, 17] : Hints th) (bodyOf Try.prog 19) := autoH_ok (bs := [lpAt Try.prog 19 0]) (by kernel_rfl) fun b hb L hL => by
  simp only [List.mem_cons, List.not_mem_nil, or_false] at hb
  rcases hb with rfl
  · have e : lookL [(3, L19_0)] (firstReg (lpAt Try.prog 19 0)) = some L19_0 := by kernel_rfl
    rw [e] at hL; cases hL
    exact ls19_0
noncomputable def f19_0 (v : V19) : (Prop) := (∀ (i : Nat), i < v.M → (fun (j : Nat) => [SV.int IntKind.u64 (v.F j), SV.int IntKind.u64 (v.G j)]) i = elC (fun (j : Nat) => [SV.int IntKind.u64 (v.F j), SV.int IntKind.u64 (v.G j)]) (0:Nat) [Ck.int IntKind.u64, Ck.int IntKind.u64] i) ∧ ∀ (i : Nat), i < (0:Nat) → (fun (j : Nat) => []) i = elC (fun (j : Nat) => []) (0:Nat) [Ck.int IntKind.u64, Ck.int IntKind.u64] i
noncomputable def f19_1 (v : V19) : (Prop) := LT (r19_0 (P19_0.mk v.L (↑v.L : Int) v.M v.ob v.F v.G)) (S19_0.mk (0:Nat) (0 : Int) (0:Nat) (colI (fun (j : Nat) => []) (0:Nat)) (colI (fun (j : Nat) => []) (1 : Nat)))
noncomputable def f19z0 (v : V19) : S19_0 := lastS (r19_0 (P19_0.mk v.L (↑v.L : Int) v.M v.ob v.F v.G)) (S19_0.mk (0:Nat) (0 : Int) (0:Nat) (colI (fun (j : Nat) => []) (0:Nat)) (colI (fun (j : Nat) => []) (1 : Nat)))
noncomputable def f19_2 (v : V19) : (Nat) := (f19z0 v).n3
noncomputable def f19_3 (v : V19) : (Nat) := (f19z0 v).N1
noncomputable def f19_4 (v : V19) : Nat → (Int) := fun j => (f19z0 v).F1_0 j
noncomputable def f19_5 (v : V19) : Nat → (Int) := fun j => (f19z0 v).F1_1 j
theorem n_f19_0 (v : V19) : f19_0 v := by
  unfold f19_0
  first
    | (intros; rfl)
    | (intro i; rfl)
    | (intro i _; rfl)
    | (intro _ i; rfl)
    | (intro _ i _; rfl)
    | (refine ⟨?_, ?_⟩ <;> intro i <;> rfl)
    | (refine ⟨?_, ?_, ?_⟩ <;> intro i <;> rfl)
    | (refine ⟨?_, ?_⟩ <;> intro i _ <;> rfl)
    | (repeat' apply And.intro) <;> first | (intro i; rfl) | (intro i _; rfl) | (intro i h; exact absurd h (Nat.not_lt_zero i)) | (intro i; exact scpL_rowSet (by rfl) (by rfl)) | (intro i; exact scpL_rowEl (by kernel_rfl) _)
    | (intros; (repeat' apply And.intro) <;> intros <;> first | rfl | (exact absurd (by assumption) (Nat.not_lt_zero _)))
    | omega
    | decide
noncomputable def ff19 (v : V19) : Tr (Fin th.R) := (Tr.need (f19_0 v) (Tr.need (f19_1 v) (Tr.leaf (Prod.mk (SV.slc ((1 : Nat)) ((2 : Nat)) ((0:Nat)) (f19_2 v)) (Prod.mk (List.cons (HO.ro ((27 : Nat)) ((2 : Nat)) (v.M) (fun j => (List.cons (SV.int (IntKind.u64) (v.F j)) (List.cons (SV.int (IntKind.u64) (v.G j)) []))) (v.ob)) (List.cons (HO.row ((29 : Nat)) ((2 : Nat)) (f19_3 v) (fun j => (List.cons (SV.int (IntKind.u64) (f19_4 v j)) (List.cons (SV.int (IntKind.u64) (f19_5 v j)) [])))) [])) [])))))
noncomputable def f19 (v : V19) : Tr (Fin th.R) := (Tr.need (f19_1 v) (Tr.leaf (Prod.mk (SV.slc ((1 : Nat)) ((2 : Nat)) ((0:Nat)) (f19_2 v)) (Prod.mk (List.cons (HO.ro ((27 : Nat)) ((2 : Nat)) (v.M) (fun j => (List.cons (SV.int (IntKind.u64) (v.F j)) (List.cons (SV.int (IntKind.u64) (v.G j)) []))) (v.ob)) (List.cons (HO.row ((29 : Nat)) ((2 : Nat)) (f19_3 v) (fun j => (List.cons (SV.int (IntKind.u64) (f19_4 v j)) (List.cons (SV.int (IntKind.u64) (f19_5 v j)) [])))) [])) ([])))))
noncomputable def C19 : CF th.R := fnC d19 ofV19 (f19 )
theorem q19 (v : V19) : (evFn th Try.prog (auto th Try.prog nice36n [] 20) (autoH [(3, L19_0)] [] [] [2, 3, 17] : Hints th) 19) (A19 v) (H19 v) = some (ff19 v) := by kernel_rfl
theorem qg19 (v : V19) : ((ff19 v).map (setD [])).get = (f19 v).get := by kernel_rfl
theorem qd19 (v : V19) : allD 1 [] (ff19 v) = true := by kernel_rfl
theorem s19 : Sound Try.prog th 19 (C19 ) := fnC_sound (evFn_sound' (T := th) (P := Try.prog) (tbl := (auto th Try.prog nice36n [] 20)) (auto_sound (nice := nice36n) (us := []) nok36n 20) (H := (autoH [(3, L19_0)] [] [] [2, 3, 17] : Hints th)) (k := 19) (fnLoops ok19)) d19 A19 H19 toV19 (by kernel_rfl) (fun v => by kernel_rfl)
  (fun l v h => by
    unfold ofV19 at h
    split at h
    · cases h; rfl
    · cases h)
  [] (fun v => ⟨ff19 v, q19 v, fun h => by
    unfold f19 at h; unfold ff19
    simp only [Tr.ok, n_f19_0, true_and, and_true, forall_const, implies_true] at h ⊢
    try exact h, qg19 v, qd19 v⟩)
theorem qdd19 (v : V19) : (f19 v).get.2.2 = [] := by
  rw [← qg19, Tr.map_get]; rfl
end Go.Sx.S

namespace Go.Sx.S
open Go Go.Sx Go.Proofs Go.RowKit
set_option maxRecDepth 100000
structure V21 where
  L : Nat
  M : Nat
  ob : Obj
  F : Nat → Int
  G : Nat → Int
def A21 (v : V21) : List SV := [.slc 0 2 0 v.L]
def H21 (v : V21) : List (HO th.R) := [.ro 27 2 v.M (fun j => [.int .u64 (v.F j), .int .u64 (v.G j)]) v.ob]
def toV21 (v : V21) : List (Vl th.R) := [.n v.L, .n v.M, .o v.ob, .c v.F, .c v.G]
def ofV21 : List (Vl th.R) → Option V21
  | [.n L, .n M, .o ob, .c F, .c G] => some ⟨L, M, ob, F, G⟩
  | _ => none
def d21 : Ft := ⟨[.slc0 0 2], [.roc 27 [.int .u64, .int .u64]]⟩
structure P21_1 where
  n0 : Nat
  n3 : Nat
  n9 : Nat
  x10 : Int
  x11 : Int
  N0 : Nat
  O0 : Obj
  F0_0 : Nat → Int
  F0_1 : Nat → Int
  N1 : Nat
  F1_0 : Nat → Int
  F1_1 : Nat → Int
  N2 : Nat
  F2_0 : Nat → Int
  F2_1 : Nat → Int
  xh3_0 : Int
  xh3_1 : Int
structure S21_1 where
  n4 : Nat
instance : Inhabited S21_1 := ⟨⟨0⟩⟩
def I21_1 (p : P21_1) (s : S21_1) : St th.R := ⟨[some (.slc 0 2 0 p.n0), none, none, some (.slc 1 2 0 p.n3), some (.slc 2 2 0 s.n4), none, some (.ptr 3 0), none, none, some (.slc 1 2 0 p.n9), some (.int .i64 p.x10), some (.int .i64 p.x11), none, none, none, none, none, none, none, none, none, none, none, none, none, none, none, none, none, none, none, none, none, none, none, none, none, none, none, none, none, none, none, none, none, none, none, none, none, none, none, none, none, none, none, none, none, none, none], [.ro 27 2 p.N0 (fun j => [.int .u64 (p.F0_0 j), .int .u64 (p.F0_1 j)]) p.O0, .row 27 2 p.N1 (fun j => [.int .u64 (p.F1_0 j), .int .u64 (p.F1_1 j)]), .row 27 2 p.N2 (fun j => [.int .u64 (p.F2_0 j), .int .u64 (p.F2_1 j)]), .cells 27 [.int .u64 p.xh3_0, .int .u64 p.xh3_1]], [], []⟩
def d21_1 : Lp := ⟨⟨59, [(0, .slc0 0 2), (3, .slc0 1 2), (4, .slc0 2 2), (6, .ptr 3 0), (9, .slc0 1 2), (10, .int .i64), (11, .int .i64)], [.roc 27 [.int .u64, .int .u64], .rowc 27 [.int .u64, .int .u64], .rowc 27 [.int .u64, .int .u64], .cells 27 [.int .u64, .int .u64]]⟩, [], 4, [], [0, 3, 4, 6, 9, 10, 11, 19, 20, 21, 22, 23, 24, 25, 26, 27, 28, 39, 40, 41, 42, 43, 44, 45, 46, 47], []⟩
def toV21_1 (p : P21_1) (s : S21_1) : List (Vl th.R) := [.n p.n0, .n p.n3, .n s.n4, .n p.n9, .i p.x10, .i p.x11, .n p.N0, .o p.O0, .c p.F0_0, .c p.F0_1, .n p.N1, .c p.F1_0, .c p.F1_1, .n p.N2, .c p.F2_0, .c p.F2_1, .i p.xh3_0, .i p.xh3_1]
def ofV21_1 : List (Vl th.R) → Option (P21_1 × S21_1)
  | [.n n0, .n n3, .n n4, .n n9, .i x10, .i x11, .n N0, .o O0, .c F0_0, .c F0_1, .n N1, .c F1_0, .c F1_1, .n N2, .c F2_0, .c F2_1, .i xh3_0, .i xh3_1] => some (⟨n0, n3, n9, x10, x11, N0, O0, F0_0, F0_1, N1, F1_0, F1_1, N2, F2_0, F2_1, xh3_0, xh3_1⟩, ⟨n4⟩)
  | _ => none
noncomputable def e21_1_0 (p : P21_1) (s : S21_1) : (Prop) := (cnd (decide ((↑s.n4 : Int) > (0 : Int))) true false = true → (0 : Int) ≤ IntKind.i64.wrap ((↑s.n4 : Int) - (1 : Int)) ∧ IntKind.i64.wrap ((↑s.n4 : Int) - (1 : Int)) < (↑s.n4 : Int)) ∧ (cnd (decide ((↑s.n4 : Int) > (0 : Int))) true false = true → (0:Nat) + (IntKind.i64.wrap ((↑s.n4 : Int) - (1 : Int))).toNat < p.N2)
noncomputable def e21_1_1 (p : P21_1) (s : S21_1) : (Bool) := cnd (cnd (decide ((↑s.n4 : Int) > (0 : Int))) (decide (p.F2_1 ((0:Nat) + (IntKind.i64.wrap ((↑s.n4 : Int) - (1 : Int))).toNat) ≤ p.xh3_0)) false) false true
noncomputable def e21_1_2 (p : P21_1) (s : S21_1) : (Prop) := (∀ (i : Nat), scpL (0:Nat) ((fun (j : Nat) => [SV.int IntKind.u64 (p.F0_0 j), SV.int IntKind.u64 (p.F0_1 j)]) i) = true) ∧ (∀ (i : Nat), scpL (0:Nat) ((fun (j : Nat) => [SV.int IntKind.u64 (p.F1_0 j), SV.int IntKind.u64 (p.F1_1 j)]) i) = true) ∧ ∀ (i : Nat), scpL (0:Nat) ((fun (j : Nat) => [SV.int IntKind.u64 (p.F2_0 j), SV.int IntKind.u64 (p.F2_1 j)]) i) = true
noncomputable def e21_1_3 (p : P21_1) (s : S21_1) : (Prop) := (0 : Int) ≤ IntKind.i64.wrap ((↑s.n4 : Int) - (1 : Int)) ∧ IntKind.i64.wrap ((↑s.n4 : Int) - (1 : Int)) ≤ (↑s.n4 : Int)
noncomputable def e21_1_4 (p : P21_1) (s : S21_1) : (Prop) := ((∀ (i : Nat), scpL (0:Nat) ((fun (j : Nat) => [SV.int IntKind.u64 (p.F0_0 j), SV.int IntKind.u64 (p.F0_1 j)]) i) = true) ∧ (∀ (i : Nat), scpL (0:Nat) ((fun (j : Nat) => [SV.int IntKind.u64 (p.F1_0 j), SV.int IntKind.u64 (p.F1_1 j)]) i) = true) ∧ ∀ (i : Nat), scpL (0:Nat) ((fun (j : Nat) => [SV.int IntKind.u64 (p.F2_0 j), SV.int IntKind.u64 (p.F2_1 j)]) i) = true) ∧ (∀ (i : Nat), i < p.N0 → (fun (j : Nat) => [SV.int IntKind.u64 (p.F0_0 j), SV.int IntKind.u64 (p.F0_1 j)]) i = elC (fun (j : Nat) => [SV.int IntKind.u64 (p.F0_0 j), SV.int IntKind.u64 (p.F0_1 j)]) (0:Nat) [Ck.int IntKind.u64, Ck.int IntKind.u64] i) ∧ (∀ (i : Nat), i < p.N1 → (fun (j : Nat) => [SV.int IntKind.u64 (p.F1_0 j), SV.int IntKind.u64 (p.F1_1 j)]) i = elC (fun (j : Nat) => [SV.int IntKind.u64 (p.F1_0 j), SV.int IntKind.u64 (p.F1_1 j)]) (0:Nat) [Ck.int IntKind.u64, Ck.int IntKind.u64] i) ∧ ∀ (i : Nat), i < p.N2 → (fun (j : Nat) => [SV.int IntKind.u64 (p.F2_0 j), SV.int IntKind.u64 (p.F2_1 j)]) i = elC (fun (j : Nat) => [SV.int IntKind.u64 (p.F2_0 j), SV.int IntKind.u64 (p.F2_1 j)]) (0:Nat) [Ck.int IntKind.u64, Ck.int IntKind.u64] i
noncomputable def e21_1_5 (p : P21_1) (s : S21_1) : (Nat) := (IntKind.i64.wrap ((↑s.n4 : Int) - (1 : Int))).toNat
theorem n_e21_1_2 (p : P21_1) (s : S21_1) : e21_1_2 p s := by
  unfold e21_1_2
  first
    | (intros; rfl)
    | (intro i; rfl)
    | (intro i _; rfl)
    | (intro _ i; rfl)
    | (intro _ i _; rfl)
    | (refine ⟨?_, ?_⟩ <;> intro i <;> rfl)
    | (refine ⟨?_, ?_, ?_⟩ <;> intro i <;> rfl)
    | (refine ⟨?_, ?_⟩ <;> intro i _ <;> rfl)
    | (repeat' apply And.intro) <;> first | (intro i; rfl) | (intro i _; rfl) | (intro i h; exact absurd h (Nat.not_lt_zero i)) | (intro i; exact scpL_rowSet (by rfl) (by rfl)) | (intro i; exact scpL_rowEl (by kernel_rfl) _)
    | (intros; (repeat' apply And.intro) <;> intros <;> first | rfl | (exact absurd (by assumption) (Nat.not_lt_zero _)))
    | omega
    | decide
theorem n_e21_1_4 (p : P21_1) (s : S21_1) : e21_1_4 p s := by
  unfold e21_1_4
  first
    | (intros; rfl)
    | (intro i; rfl)
    | (intro i _; rfl)
    | (intro _ i; rfl)
    | (intro _ i _; rfl)
    | (refine ⟨?_, ?_⟩ <;> intro i <;> rfl)
    | (refine ⟨?_, ?_, ?_⟩ <;> intro i <;> rfl)
    | (refine ⟨?_, ?_⟩ <;> intro i _ <;> rfl)
    | (repeat' apply And.intro) <;> first | (intro i; rfl) | (intro i _; rfl) | (intro i h; exact absurd h (Nat.not_lt_zero i)) | (intro i; exact scpL_rowSet (by rfl) (by rfl)) | (intro i; exact scpL_rowEl (by kernel_rfl) _)
    | (intros; (repeat' apply And.intro) <;> intros <;> first | rfl | (exact absurd (by assumption) (Nat.not_lt_zero _)))
    | omega
    | decide
noncomputable def rf21_1 (p : P21_1) (s : S21_1) : Tr (Rs th.R S21_1) := (Tr.need (e21_1_0 p s) (Tr.ite (e21_1_1 p s) (Tr.need (e21_1_2 p s) (Tr.leaf (Rs.out (Ex.exit ((2 : Nat))) (List.cons (Option.some (SV.slc ((0:Nat)) ((2 : Nat)) ((0:Nat)) (p.n0))) (none :: (none :: (List.cons (Option.some (SV.slc ((1 : Nat)) ((2 : Nat)) ((0:Nat)) (p.n3))) (List.cons (Option.some (SV.slc ((2 : Nat)) ((2 : Nat)) ((0:Nat)) (s.n4))) (none :: (List.cons (Option.some (SV.ptr ((3 : Nat)) ((0:Nat)))) (none :: (none :: (List.cons (Option.some (SV.slc ((1 : Nat)) ((2 : Nat)) ((0:Nat)) (p.n9))) (List.cons (Option.some (SV.int (IntKind.i64) (p.x10))) (List.cons (Option.some (SV.int (IntKind.i64) (p.x11))) (none :: (none :: (none :: (none :: (none :: (none :: (none :: (none :: (none :: (none :: (none :: (none :: (none :: (none :: (none :: (none :: (none :: (none :: (none :: (none :: (none :: (none :: (none :: (none :: (none :: (none :: (none :: (none :: (none :: (none :: (none :: (none :: (none :: (none :: (none :: (none :: (none :: (none :: (none :: (none :: (none :: (none :: (none :: (none :: (none :: (none :: (none :: []))))))))))))))))))))))))))))))))))))))))))))))))))))))))))) (List.cons (HO.ro ((27 : Nat)) ((2 : Nat)) (p.N0) (fun j => (List.cons (SV.int (IntKind.u64) (p.F0_0 j)) (List.cons (SV.int (IntKind.u64) (p.F0_1 j)) []))) (p.O0)) (List.cons (HO.row ((27 : Nat)) ((2 : Nat)) (p.N1) (fun j => (List.cons (SV.int (IntKind.u64) (p.F1_0 j)) (List.cons (SV.int (IntKind.u64) (p.F1_1 j)) [])))) (List.cons (HO.row ((27 : Nat)) ((2 : Nat)) (p.N2) (fun j => (List.cons (SV.int (IntKind.u64) (p.F2_0 j)) (List.cons (SV.int (IntKind.u64) (p.F2_1 j)) [])))) (List.cons (HO.cells ((27 : Nat)) (List.cons (SV.int (IntKind.u64) (p.xh3_0)) (List.cons (SV.int (IntKind.u64) (p.xh3_1)) []))) []))))))) (Tr.need (e21_1_3 p s) (Tr.need (e21_1_4 p s) (Tr.leaf (Rs.on (S21_1.mk ((e21_1_5 p s)))))))))
noncomputable def r21_1 (p : P21_1) (s : S21_1) : Tr (Rs th.R S21_1) := (Tr.need (e21_1_0 p s) (Tr.ite (e21_1_1 p s) (Tr.leaf (Rs.out (Ex.exit ((2 : Nat))) (List.cons (Option.some (SV.slc ((0:Nat)) ((2 : Nat)) ((0:Nat)) (p.n0))) (none :: (none :: (List.cons (Option.some (SV.slc ((1 : Nat)) ((2 : Nat)) ((0:Nat)) (p.n3))) (List.cons (Option.some (SV.slc ((2 : Nat)) ((2 : Nat)) ((0:Nat)) (s.n4))) (none :: (List.cons (Option.some (SV.ptr ((3 : Nat)) ((0:Nat)))) (none :: (none :: (List.cons (Option.some (SV.slc ((1 : Nat)) ((2 : Nat)) ((0:Nat)) (p.n9))) (List.cons (Option.some (SV.int (IntKind.i64) (p.x10))) (List.cons (Option.some (SV.int (IntKind.i64) (p.x11))) (none :: (none :: (none :: (none :: (none :: (none :: (none :: (none :: (none :: (none :: (none :: (none :: (none :: (none :: (none :: (none :: (none :: (none :: (none :: (none :: (none :: (none :: (none :: (none :: (none :: (none :: (none :: (none :: (none :: (none :: (none :: (none :: (none :: (none :: (none :: (none :: (none :: (none :: (none :: (none :: (none :: (none :: (none :: (none :: (none :: (none :: (none :: []))))))))))))))))))))))))))))))))))))))))))))))))))))))))))) (List.cons (HO.ro ((27 : Nat)) ((2 : Nat)) (p.N0) (fun j => (List.cons (SV.int (IntKind.u64) (p.F0_0 j)) (List.cons (SV.int (IntKind.u64) (p.F0_1 j)) []))) (p.O0)) (List.cons (HO.row ((27 : Nat)) ((2 : Nat)) (p.N1) (fun j => (List.cons (SV.int (IntKind.u64) (p.F1_0 j)) (List.cons (SV.int (IntKind.u64) (p.F1_1 j)) [])))) (List.cons (HO.row ((27 : Nat)) ((2 : Nat)) (p.N2) (fun j => (List.cons (SV.int (IntKind.u64) (p.F2_0 j)) (List.cons (SV.int (IntKind.u64) (p.F2_1 j)) [])))) (List.cons (HO.cells ((27 : Nat)) (List.cons (SV.int (IntKind.u64) (p.xh3_0)) (List.cons (SV.int (IntKind.u64) (p.xh3_1)) []))) [])))))) (Tr.need (e21_1_3 p s) (Tr.leaf (Rs.on (S21_1.mk ((e21_1_5 p s))))))))
noncomputable def E21_1 : St th.R → Out th := evCode th Try.prog (auto th Try.prog nice36n [] 20) (autoH [] [] [] [4] : Hints th) (lpAt Try.prog 21 1)
theorem B21_1 : CodeSound th Try.prog (lpAt Try.prog 21 1) E21_1 := evCode_sound (T := th) (P := Try.prog) (tbl := (auto th Try.prog nice36n [] 20)) (auto_sound (nice := nice36n) (us := []) nok36n 20) (autoH [] [] [] [4] : Hints th) _ (LoopsOk_mem (fun _ => rfl) _ fun b hb L hL => by cases hL)
noncomputable def L21_1 : St th.R → Out th := loopL d21_1 ofV21_1 r21_1
theorem h1_21_1 (p : P21_1) (s : S21_1) : bld d21_1.tm (toV21_1 p s) = some (I21_1 p s) := by kernel_rfl
theorem h2_21_1 (l : List (Vl th.R)) (p : P21_1) (s : S21_1) (h : ofV21_1 l = some (p, s)) : l = toV21_1 p s := by
  unfold ofV21_1 at h
  split at h
  · cases h; rfl
  · cases h
theorem h3_21_1 (p : P21_1) (s : S21_1) : cvE d21_1 (E21_1 (I21_1 p s)) = some ((rf21_1 p s).map (Rs.map (toV21_1 p))) := by kernel_rfl
theorem h3g_21_1 (p : P21_1) (s : S21_1) : (rf21_1 p s).get = (r21_1 p s).get := by kernel_rfl
theorem h4_21_1 (p : P21_1) (s s1 : S21_1) : outH d21_1.dirt d21_1.n0 (r21_1 p s) = repH (maskH d21_1.dirt 0 d21_1.n0 (I21_1 p s1).heap) (r21_1 p s) := by kernel_rfl
theorem ls21_1 : CodeSound th Try.prog (.loop (lpAt Try.prog 21 1)) L21_1 := loopL_sound B21_1 d21_1 I21_1 toV21_1 (by kernel_rfl) h1_21_1 h2_21_1
  (fun p s => ⟨(rf21_1 p s).map (Rs.map (toV21_1 p)), h3_21_1 p s, fun h => by
    rw [Tr.map_ok]
    unfold r21_1 at h; unfold rf21_1
    simp only [Tr.ok, n_e21_1_2, n_e21_1_4, true_and, and_true, forall_const, implies_true] at h ⊢
    try exact h, by rw [Tr.map_get, h3g_21_1 p s]⟩) h4_21_1
structure P21_0 where
  n0 : Nat
  n3 : Nat
  n9 : Nat
  x10 : Int
  N0 : Nat
  O0 : Obj
  F0_0 : Nat → Int
  F0_1 : Nat → Int
  N1 : Nat
  F1_0 : Nat → Int
  F1_1 : Nat → Int
structure S21_0 where
  n4 : Nat
  x11 : Int
  N2 : Nat
  F2_0 : Nat → Int
  F2_1 : Nat → Int
instance : Inhabited S21_0 := ⟨⟨0, 0, 0, fun _ => 0, fun _ => 0⟩⟩
def I21_0 (p : P21_0) (s : S21_0) : St th.R := ⟨[some (.slc 0 2 0 p.n0), none, none, some (.slc 1 2 0 p.n3), some (.slc 2 2 0 s.n4), none, none, none, none, some (.slc 1 2 0 p.n9), some (.int .i64 p.x10), some (.int .i64 s.x11), none, none, none, none, none, none, none, none, none, none, none, none, none, none, none, none, none, none, none, none, none, none, none, none, none, none, none, none, none, none, none, none, none, none, none, none, none, none, none, none, none, none, none, none, none, none, none], [.ro 27 2 p.N0 (fun j => [.int .u64 (p.F0_0 j), .int .u64 (p.F0_1 j)]) p.O0, .row 27 2 p.N1 (fun j => [.int .u64 (p.F1_0 j), .int .u64 (p.F1_1 j)]), .row 27 2 s.N2 (fun j => [.int .u64 (s.F2_0 j), .int .u64 (s.F2_1 j)])], [], []⟩
def d21_0 : Lp := ⟨⟨59, [(0, .slc0 0 2), (3, .slc0 1 2), (4, .slc0 2 2), (9, .slc0 1 2), (10, .int .i64), (11, .int .i64)], [.roc 27 [.int .u64, .int .u64], .rowc 27 [.int .u64, .int .u64], .rowc 27 [.int .u64, .int .u64]]⟩, [⟨4, 27, 2⟩], 2, [], [0, 2, 3], []⟩
def toV21_0 (p : P21_0) (s : S21_0) : List (Vl th.R) := [.n p.n0, .n p.n3, .n s.n4, .n p.n9, .i p.x10, .i s.x11, .n p.N0, .o p.O0, .c p.F0_0, .c p.F0_1, .n p.N1, .c p.F1_0, .c p.F1_1, .n s.N2, .c s.F2_0, .c s.F2_1]
def ofV21_0 : List (Vl th.R) → Option (P21_0 × S21_0)
  | [.n n0, .n n3, .n n4, .n n9, .i x10, .i x11, .n N0, .o O0, .c F0_0, .c F0_1, .n N1, .c F1_0, .c F1_1, .n N2, .c F2_0, .c F2_1] => some (⟨n0, n3, n9, x10, N0, O0, F0_0, F0_1, N1, F1_0, F1_1⟩, ⟨n4, x11, N2, F2_0, F2_1⟩)
  | _ => none
noncomputable def e21_0_0 (p : P21_0) (s : S21_0) : (Bool) := cnd (decide (s.x11 < p.x10)) false true
noncomputable def e21_0_1 (p : P21_0) (s : S21_0) : (Prop) := (∀ (i : Nat), scpL (0:Nat) ((fun (j : Nat) => [SV.int IntKind.u64 (p.F0_0 j), SV.int IntKind.u64 (p.F0_1 j)]) i) = true) ∧ (∀ (i : Nat), scpL (0:Nat) ((fun (j : Nat) => [SV.int IntKind.u64 (p.F1_0 j), SV.int IntKind.u64 (p.F1_1 j)]) i) = true) ∧ ∀ (i : Nat), scpL (0:Nat) ((fun (j : Nat) => [SV.int IntKind.u64 (s.F2_0 j), SV.int IntKind.u64 (s.F2_1 j)]) i) = true
noncomputable def e21_0_2 (p : P21_0) (s : S21_0) : (Prop) := (0 : Int) ≤ s.x11 ∧ s.x11 < (↑p.n9 : Int)
noncomputable def e21_0_3 (p : P21_0) (s : S21_0) : (Prop) := (0:Nat) + s.x11.toNat < p.N1
noncomputable def e21_0_4 (p : P21_0) (s : S21_0) : (Prop) := (∀ (i : Nat), i < p.N0 → (fun (j : Nat) => [SV.int IntKind.u64 (p.F0_0 j), SV.int IntKind.u64 (p.F0_1 j)]) i = elC (fun (j : Nat) => [SV.int IntKind.u64 (p.F0_0 j), SV.int IntKind.u64 (p.F0_1 j)]) (0:Nat) [Ck.int IntKind.u64, Ck.int IntKind.u64] i) ∧ (∀ (i : Nat), i < p.N1 → (fun (j : Nat) => [SV.int IntKind.u64 (p.F1_0 j), SV.int IntKind.u64 (p.F1_1 j)]) i = elC (fun (j : Nat) => [SV.int IntKind.u64 (p.F1_0 j), SV.int IntKind.u64 (p.F1_1 j)]) (0:Nat) [Ck.int IntKind.u64, Ck.int IntKind.u64] i) ∧ ∀ (i : Nat), i < s.N2 → (fun (j : Nat) => [SV.int IntKind.u64 (s.F2_0 j), SV.int IntKind.u64 (s.F2_1 j)]) i = elC (fun (j : Nat) => [SV.int IntKind.u64 (s.F2_0 j), SV.int IntKind.u64 (s.F2_1 j)]) (0:Nat) [Ck.int IntKind.u64, Ck.int IntKind.u64] i
noncomputable def e21_0_5 (p : P21_0) (s : S21_0) : (Prop) := LT (r21_1 (P21_1.mk p.n0 p.n3 p.n9 p.x10 s.x11 p.N0 p.O0 p.F0_0 p.F0_1 p.N1 p.F1_0 p.F1_1 s.N2 s.F2_0 s.F2_1 (p.F1_0 ((0:Nat) + s.x11.toNat)) (p.F1_1 ((0:Nat) + s.x11.toNat)))) (S21_1.mk s.n4)
noncomputable def e21_0_6 (p : P21_0) (s : S21_0) : (Prop) := (cnd (decide ((↑(lastS (r21_1 (P21_1.mk p.n0 p.n3 p.n9 p.x10 s.x11 p.N0 p.O0 p.F0_0 p.F0_1 p.N1 p.F1_0 p.F1_1 s.N2 s.F2_0 s.F2_1 (p.F1_0 ((0:Nat) + s.x11.toNat)) (p.F1_1 ((0:Nat) + s.x11.toNat)))) (S21_1.mk s.n4)).n4 : Int) > (0 : Int))) true false = true → (0 : Int) ≤ IntKind.i64.wrap ((↑(lastS (r21_1 (P21_1.mk p.n0 p.n3 p.n9 p.x10 s.x11 p.N0 p.O0 p.F0_0 p.F0_1 p.N1 p.F1_0 p.F1_1 s.N2 s.F2_0 s.F2_1 (p.F1_0 ((0:Nat) + s.x11.toNat)) (p.F1_1 ((0:Nat) + s.x11.toNat)))) (S21_1.mk s.n4)).n4 : Int) - (1 : Int)) ∧ IntKind.i64.wrap ((↑(lastS (r21_1 (P21_1.mk p.n0 p.n3 p.n9 p.x10 s.x11 p.N0 p.O0 p.F0_0 p.F0_1 p.N1 p.F1_0 p.F1_1 s.N2 s.F2_0 s.F2_1 (p.F1_0 ((0:Nat) + s.x11.toNat)) (p.F1_1 ((0:Nat) + s.x11.toNat)))) (S21_1.mk s.n4)).n4 : Int) - (1 : Int)) < (↑(lastS (r21_1 (P21_1.mk p.n0 p.n3 p.n9 p.x10 s.x11 p.N0 p.O0 p.F0_0 p.F0_1 p.N1 p.F1_0 p.F1_1 s.N2 s.F2_0 s.F2_1 (p.F1_0 ((0:Nat) + s.x11.toNat)) (p.F1_1 ((0:Nat) + s.x11.toNat)))) (S21_1.mk s.n4)).n4 : Int)) ∧ (cnd (decide ((↑(lastS (r21_1 (P21_1.mk p.n0 p.n3 p.n9 p.x10 s.x11 p.N0 p.O0 p.F0_0 p.F0_1 p.N1 p.F1_0 p.F1_1 s.N2 s.F2_0 s.F2_1 (p.F1_0 ((0:Nat) + s.x11.toNat)) (p.F1_1 ((0:Nat) + s.x11.toNat)))) (S21_1.mk s.n4)).n4 : Int) > (0 : Int))) true false = true → (0:Nat) + (IntKind.i64.wrap ((↑(lastS (r21_1 (P21_1.mk p.n0 p.n3 p.n9 p.x10 s.x11 p.N0 p.O0 p.F0_0 p.F0_1 p.N1 p.F1_0 p.F1_1 s.N2 s.F2_0 s.F2_1 (p.F1_0 ((0:Nat) + s.x11.toNat)) (p.F1_1 ((0:Nat) + s.x11.toNat)))) (S21_1.mk s.n4)).n4 : Int) - (1 : Int))).toNat < s.N2)
noncomputable def e21_0_7 (p : P21_0) (s : S21_0) : (Bool) := cnd (decide ((↑(lastS (r21_1 (P21_1.mk p.n0 p.n3 p.n9 p.x10 s.x11 p.N0 p.O0 p.F0_0 p.F0_1 p.N1 p.F1_0 p.F1_1 s.N2 s.F2_0 s.F2_1 (p.F1_0 ((0:Nat) + s.x11.toNat)) (p.F1_1 ((0:Nat) + s.x11.toNat)))) (S21_1.mk s.n4)).n4 : Int) > (0 : Int))) (!f15_0 (p.F1_0 ((0:Nat) + s.x11.toNat)) (p.F1_1 ((0:Nat) + s.x11.toNat)) (s.F2_0 ((0:Nat) + (IntKind.i64.wrap ((↑(lastS (r21_1 (P21_1.mk p.n0 p.n3 p.n9 p.x10 s.x11 p.N0 p.O0 p.F0_0 p.F0_1 p.N1 p.F1_0 p.F1_1 s.N2 s.F2_0 s.F2_1 (p.F1_0 ((0:Nat) + s.x11.toNat)) (p.F1_1 ((0:Nat) + s.x11.toNat)))) (S21_1.mk s.n4)).n4 : Int) - (1 : Int))).toNat)) (s.F2_1 ((0:Nat) + (IntKind.i64.wrap ((↑(lastS (r21_1 (P21_1.mk p.n0 p.n3 p.n9 p.x10 s.x11 p.N0 p.O0 p.F0_0 p.F0_1 p.N1 p.F1_0 p.F1_1 s.N2 s.F2_0 s.F2_1 (p.F1_0 ((0:Nat) + s.x11.toNat)) (p.F1_1 ((0:Nat) + s.x11.toNat)))) (S21_1.mk s.n4)).n4 : Int) - (1 : Int))).toNat))) false
noncomputable def e21_0_8 (p : P21_0) (s : S21_0) : (Prop) := (0:Nat) = (0:Nat) ∧ (lastS (r21_1 (P21_1.mk p.n0 p.n3 p.n9 p.x10 s.x11 p.N0 p.O0 p.F0_0 p.F0_1 p.N1 p.F1_0 p.F1_1 s.N2 s.F2_0 s.F2_1 (p.F1_0 ((0:Nat) + s.x11.toNat)) (p.F1_1 ((0:Nat) + s.x11.toNat)))) (S21_1.mk s.n4)).n4 ≤ s.N2 ∧ (1 : Nat) ≤ (1 : Nat) ∧ ((lastS (r21_1 (P21_1.mk p.n0 p.n3 p.n9 p.x10 s.x11 p.N0 p.O0 p.F0_0 p.F0_1 p.N1 p.F1_0 p.F1_1 s.N2 s.F2_0 s.F2_1 (p.F1_0 ((0:Nat) + s.x11.toNat)) (p.F1_1 ((0:Nat) + s.x11.toNat)))) (S21_1.mk s.n4)).n4 + (1 : Nat)) * (4096 : Nat) ≤ (140737488355328 : Nat) ∧ (lastS (r21_1 (P21_1.mk p.n0 p.n3 p.n9 p.x10 s.x11 p.N0 p.O0 p.F0_0 p.F0_1 p.N1 p.F1_0 p.F1_1 s.N2 s.F2_0 s.F2_1 (p.F1_0 ((0:Nat) + s.x11.toNat)) (p.F1_1 ((0:Nat) + s.x11.toNat)))) (S21_1.mk s.n4)).n4 + (1 : Nat) ≤ (9223372036854775807 : Nat)
noncomputable def e21_0_9 (p : P21_0) (s : S21_0) : (Prop) := ((∀ (i : Nat), scpL (0:Nat) ((fun (j : Nat) => [SV.int IntKind.u64 (p.F0_0 j), SV.int IntKind.u64 (p.F0_1 j)]) i) = true) ∧ (∀ (i : Nat), scpL (0:Nat) ((fun (j : Nat) => [SV.int IntKind.u64 (p.F1_0 j), SV.int IntKind.u64 (p.F1_1 j)]) i) = true) ∧ ∀ (i : Nat), scpL (0:Nat) ((fun (i : Nat) => rowSet (i.blt (lastS (r21_1 (P21_1.mk p.n0 p.n3 p.n9 p.x10 s.x11 p.N0 p.O0 p.F0_0 p.F0_1 p.N1 p.F1_0 p.F1_1 s.N2 s.F2_0 s.F2_1 (p.F1_0 ((0:Nat) + s.x11.toNat)) (p.F1_1 ((0:Nat) + s.x11.toNat)))) (S21_1.mk s.n4)).n4) ((fun (j : Nat) => [SV.int IntKind.u64 (s.F2_0 j), SV.int IntKind.u64 (s.F2_1 j)]) i) (rowEl (1 : Nat) (2 : Nat) (setMany (List.map (fun (i : Nat) => [SV.int IntKind.u64 (0 : Int), SV.int IntKind.u64 (0 : Int)].getD (i % (2 : Nat)) Inhabited.default) (List.range (2 : Nat))) (0:Nat) (SV.agg (List.take (2 : Nat) (List.drop (0:Nat) (splice [SV.int IntKind.u64 (0 : Int), SV.int IntKind.u64 (0 : Int)] (0:Nat) (SV.agg (List.take (2 : Nat) (List.drop (0:Nat) ((fun (j : Nat) => [SV.int IntKind.u64 (p.F1_0 j), SV.int IntKind.u64 (p.F1_1 j)]) ((0:Nat) + s.x11.toNat))))).cells)))).cells) ((0:Nat) + (i - (lastS (r21_1 (P21_1.mk p.n0 p.n3 p.n9 p.x10 s.x11 p.N0 p.O0 p.F0_0 p.F0_1 p.N1 p.F1_0 p.F1_1 s.N2 s.F2_0 s.F2_1 (p.F1_0 ((0:Nat) + s.x11.toNat)) (p.F1_1 ((0:Nat) + s.x11.toNat)))) (S21_1.mk s.n4)).n4)))) i) = true) ∧ (∀ (i : Nat), i < p.N0 → (fun (j : Nat) => [SV.int IntKind.u64 (p.F0_0 j), SV.int IntKind.u64 (p.F0_1 j)]) i = elC (fun (j : Nat) => [SV.int IntKind.u64 (p.F0_0 j), SV.int IntKind.u64 (p.F0_1 j)]) (0:Nat) [Ck.int IntKind.u64, Ck.int IntKind.u64] i) ∧ (∀ (i : Nat), i < p.N1 → (fun (j : Nat) => [SV.int IntKind.u64 (p.F1_0 j), SV.int IntKind.u64 (p.F1_1 j)]) i = elC (fun (j : Nat) => [SV.int IntKind.u64 (p.F1_0 j), SV.int IntKind.u64 (p.F1_1 j)]) (0:Nat) [Ck.int IntKind.u64, Ck.int IntKind.u64] i) ∧ ∀ (i : Nat), i < (lastS (r21_1 (P21_1.mk p.n0 p.n3 p.n9 p.x10 s.x11 p.N0 p.O0 p.F0_0 p.F0_1 p.N1 p.F1_0 p.F1_1 s.N2 s.F2_0 s.F2_1 (p.F1_0 ((0:Nat) + s.x11.toNat)) (p.F1_1 ((0:Nat) + s.x11.toNat)))) (S21_1.mk s.n4)).n4 + (1 : Nat) → (fun (i : Nat) => rowSet (i.blt (lastS (r21_1 (P21_1.mk p.n0 p.n3 p.n9 p.x10 s.x11 p.N0 p.O0 p.F0_0 p.F0_1 p.N1 p.F1_0 p.F1_1 s.N2 s.F2_0 s.F2_1 (p.F1_0 ((0:Nat) + s.x11.toNat)) (p.F1_1 ((0:Nat) + s.x11.toNat)))) (S21_1.mk s.n4)).n4) ((fun (j : Nat) => [SV.int IntKind.u64 (s.F2_0 j), SV.int IntKind.u64 (s.F2_1 j)]) i) (rowEl (1 : Nat) (2 : Nat) (setMany (List.map (fun (i : Nat) => [SV.int IntKind.u64 (0 : Int), SV.int IntKind.u64 (0 : Int)].getD (i % (2 : Nat)) Inhabited.default) (List.range (2 : Nat))) (0:Nat) (SV.agg (List.take (2 : Nat) (List.drop (0:Nat) (splice [SV.int IntKind.u64 (0 : Int), SV.int IntKind.u64 (0 : Int)] (0:Nat) (SV.agg (List.take (2 : Nat) (List.drop (0:Nat) ((fun (j : Nat) => [SV.int IntKind.u64 (p.F1_0 j), SV.int IntKind.u64 (p.F1_1 j)]) ((0:Nat) + s.x11.toNat))))).cells)))).cells) ((0:Nat) + (i - (lastS (r21_1 (P21_1.mk p.n0 p.n3 p.n9 p.x10 s.x11 p.N0 p.O0 p.F0_0 p.F0_1 p.N1 p.F1_0 p.F1_1 s.N2 s.F2_0 s.F2_1 (p.F1_0 ((0:Nat) + s.x11.toNat)) (p.F1_1 ((0:Nat) + s.x11.toNat)))) (S21_1.mk s.n4)).n4)))) i = elC (fun (i : Nat) => rowSet (i.blt (lastS (r21_1 (P21_1.mk p.n0 p.n3 p.n9 p.x10 s.x11 p.N0 p.O0 p.F0_0 p.F0_1 p.N1 p.F1_0 p.F1_1 s.N2 s.F2_0 s.F2_1 (p.F1_0 ((0:Nat) + s.x11.toNat)) (p.F1_1 ((0:Nat) + s.x11.toNat)))) (S21_1.mk s.n4)).n4) ((fun (j : Nat) => [SV.int IntKind.u64 (s.F2_0 j), SV.int IntKind.u64 (s.F2_1 j)]) i) (rowEl (1 : Nat) (2 : Nat) (setMany (List.map (fun (i : Nat) => [SV.int IntKind.u64 (0 : Int), SV.int IntKind.u64 (0 : Int)].getD (i % (2 : Nat)) Inhabited.default) (List.range (2 : Nat))) (0:Nat) (SV.agg (List.take (2 : Nat) (List.drop (0:Nat) (splice [SV.int IntKind.u64 (0 : Int), SV.int IntKind.u64 (0 : Int)] (0:Nat) (SV.agg (List.take (2 : Nat) (List.drop (0:Nat) ((fun (j : Nat) => [SV.int IntKind.u64 (p.F1_0 j), SV.int IntKind.u64 (p.F1_1 j)]) ((0:Nat) + s.x11.toNat))))).cells)))).cells) ((0:Nat) + (i - (lastS (r21_1 (P21_1.mk p.n0 p.n3 p.n9 p.x10 s.x11 p.N0 p.O0 p.F0_0 p.F0_1 p.N1 p.F1_0 p.F1_1 s.N2 s.F2_0 s.F2_1 (p.F1_0 ((0:Nat) + s.x11.toNat)) (p.F1_1 ((0:Nat) + s.x11.toNat)))) (S21_1.mk s.n4)).n4)))) (0:Nat) [Ck.int IntKind.u64, Ck.int IntKind.u64] i
noncomputable def e21_0_10 (p : P21_0) (s : S21_0) : (Nat) := (lastS (r21_1 (P21_1.mk p.n0 p.n3 p.n9 p.x10 s.x11 p.N0 p.O0 p.F0_0 p.F0_1 p.N1 p.F1_0 p.F1_1 s.N2 s.F2_0 s.F2_1 (p.F1_0 ((0:Nat) + s.x11.toNat)) (p.F1_1 ((0:Nat) + s.x11.toNat)))) (S21_1.mk s.n4)).n4 + (1 : Nat)
noncomputable def e21_0_11 (p : P21_0) (s : S21_0) : (Int) := IntKind.i64.wrap (s.x11 + (1 : Int))
noncomputable def e21_0_12 (p : P21_0) (s : S21_0) : Nat → (Int) := fun j => cnd (j.blt (lastS (r21_1 (P21_1.mk p.n0 p.n3 p.n9 p.x10 s.x11 p.N0 p.O0 p.F0_0 p.F0_1 p.N1 p.F1_0 p.F1_1 s.N2 s.F2_0 s.F2_1 (p.F1_0 ((0:Nat) + s.x11.toNat)) (p.F1_1 ((0:Nat) + s.x11.toNat)))) (S21_1.mk s.n4)).n4) (s.F2_0 j) (p.F1_0 ((0:Nat) + s.x11.toNat))
noncomputable def e21_0_13 (p : P21_0) (s : S21_0) : Nat → (Int) := fun j => cnd (j.blt (lastS (r21_1 (P21_1.mk p.n0 p.n3 p.n9 p.x10 s.x11 p.N0 p.O0 p.F0_0 p.F0_1 p.N1 p.F1_0 p.F1_1 s.N2 s.F2_0 s.F2_1 (p.F1_0 ((0:Nat) + s.x11.toNat)) (p.F1_1 ((0:Nat) + s.x11.toNat)))) (S21_1.mk s.n4)).n4) (s.F2_1 j) (p.F1_1 ((0:Nat) + s.x11.toNat))
theorem n_e21_0_1 (p : P21_0) (s : S21_0) : e21_0_1 p s := by
  unfold e21_0_1
  first
    | (intros; rfl)
    | (intro i; rfl)
    | (intro i _; rfl)
    | (intro _ i; rfl)
    | (intro _ i _; rfl)
    | (refine ⟨?_, ?_⟩ <;> intro i <;> rfl)
    | (refine ⟨?_, ?_, ?_⟩ <;> intro i <;> rfl)
    | (refine ⟨?_, ?_⟩ <;> intro i _ <;> rfl)
    | (repeat' apply And.intro) <;> first | (intro i; rfl) | (intro i _; rfl) | (intro i h; exact absurd h (Nat.not_lt_zero i)) | (intro i; exact scpL_rowSet (by rfl) (by rfl)) | (intro i; exact scpL_rowEl (by kernel_rfl) _)
    | (intros; (repeat' apply And.intro) <;> intros <;> first | rfl | (exact absurd (by assumption) (Nat.not_lt_zero _)))
    | omega
    | decide
theorem n_e21_0_4 (p : P21_0) (s : S21_0) : e21_0_4 p s := by
  unfold e21_0_4
  first
    | (intros; rfl)
    | (intro i; rfl)
    | (intro i _; rfl)
    | (intro _ i; rfl)
    | (intro _ i _; rfl)
    | (refine ⟨?_, ?_⟩ <;> intro i <;> rfl)
    | (refine ⟨?_, ?_, ?_⟩ <;> intro i <;> rfl)
    | (refine ⟨?_, ?_⟩ <;> intro i _ <;> rfl)
    | (repeat' apply And.intro) <;> first | (intro i; rfl) | (intro i _; rfl) | (intro i h; exact absurd h (Nat.not_lt_zero i)) | (intro i; exact scpL_rowSet (by rfl) (by rfl)) | (intro i; exact scpL_rowEl (by kernel_rfl) _)
    | (intros; (repeat' apply And.intro) <;> intros <;> first | rfl | (exact absurd (by assumption) (Nat.not_lt_zero _)))
    | omega
    | decide
theorem n_e21_0_9 (p : P21_0) (s : S21_0) : e21_0_9 p s := by
  unfold e21_0_9
  first
    | (intros; rfl)
    | (intro i; rfl)
    | (intro i _; rfl)
    | (intro _ i; rfl)
    | (intro _ i _; rfl)
    | (refine ⟨?_, ?_⟩ <;> intro i <;> rfl)
    | (refine ⟨?_, ?_, ?_⟩ <;> intro i <;> rfl)
    | (refine ⟨?_, ?_⟩ <;> intro i _ <;> rfl)
    | (repeat' apply And.intro) <;> first | (intro i; rfl) | (intro i _; rfl) | (intro i h; exact absurd h (Nat.not_lt_zero i)) | (intro i; exact scpL_rowSet (by rfl) (by rfl)) | (intro i; exact scpL_rowEl (by kernel_rfl) _)
    | (intros; (repeat' apply And.intro) <;> intros <;> first | rfl | (exact absurd (by assumption) (Nat.not_lt_zero _)))
    | omega
    | decide
noncomputable def rf21_0 (p : P21_0) (s : S21_0) : Tr (Rs th.R S21_0) := (Tr.ite (e21_0_0 p s) (Tr.need (e21_0_1 p s) (Tr.leaf (Rs.out (Ex.exit ((0:Nat))) (List.cons (Option.some (SV.slc ((0:Nat)) ((2 : Nat)) ((0:Nat)) (p.n0))) (none :: (none :: (List.cons (Option.some (SV.slc ((1 : Nat)) ((2 : Nat)) ((0:Nat)) (p.n3))) (none :: (none :: (none :: (none :: (none :: (none :: (none :: (none :: (none :: (none :: (none :: (none :: (none :: (none :: (none :: (none :: (none :: (none :: (none :: (none :: (none :: (none :: (none :: (none :: (none :: (none :: (none :: (none :: (none :: (none :: (none :: (none :: (none :: (none :: (none :: (none :: (none :: (none :: (none :: (none :: (none :: (none :: (none :: (none :: (none :: (none :: (none :: (none :: (none :: (none :: (none :: (none :: (none :: (none :: (none :: []))))))))))))))))))))))))))))))))))))))))))))))))))))))))))) (List.cons (HO.ro ((27 : Nat)) ((2 : Nat)) (p.N0) (fun j => (List.cons (SV.int (IntKind.u64) (p.F0_0 j)) (List.cons (SV.int (IntKind.u64) (p.F0_1 j)) []))) (p.O0)) (List.cons (HO.row ((27 : Nat)) ((2 : Nat)) (p.N1) (fun j => (List.cons (SV.int (IntKind.u64) (p.F1_0 j)) (List.cons (SV.int (IntKind.u64) (p.F1_1 j)) [])))) (List.cons (HO.row ((27 : Nat)) ((2 : Nat)) (s.N2) (fun j => (List.cons (SV.int (IntKind.u64) (s.F2_0 j)) (List.cons (SV.int (IntKind.u64) (s.F2_1 j)) [])))) [])))))) (Tr.need (e21_0_2 p s) (Tr.need (e21_0_3 p s) (Tr.need (e21_0_4 p s) (Tr.need (e21_0_5 p s) (Tr.need (e21_0_6 p s) (Tr.ite (e21_0_7 p s) (Tr.need (e21_0_1 p s) (Tr.leaf (Rs.out (Ex.ret) (List.cons (Option.some (SV.slc ((0:Nat)) ((2 : Nat)) ((0:Nat)) (p.n0))) (none :: (List.cons (Option.some (SV.bool (false))) (List.cons (Option.some (SV.slc ((1 : Nat)) ((2 : Nat)) ((0:Nat)) (p.n3))) (none :: (none :: (none :: (none :: (none :: (none :: (none :: (none :: (none :: (none :: (none :: (none :: (none :: (none :: (none :: (none :: (none :: (none :: (none :: (none :: (none :: (none :: (none :: (none :: (none :: (none :: (none :: (none :: (none :: (none :: (none :: (none :: (none :: (none :: (none :: (none :: (none :: (none :: (none :: (none :: (none :: (none :: (none :: (none :: (none :: (none :: (none :: (none :: (none :: (none :: (none :: (none :: (none :: (none :: (none :: []))))))))))))))))))))))))))))))))))))))))))))))))))))))))))) (List.cons (HO.ro ((27 : Nat)) ((2 : Nat)) (p.N0) (fun j => (List.cons (SV.int (IntKind.u64) (p.F0_0 j)) (List.cons (SV.int (IntKind.u64) (p.F0_1 j)) []))) (p.O0)) (List.cons (HO.row ((27 : Nat)) ((2 : Nat)) (p.N1) (fun j => (List.cons (SV.int (IntKind.u64) (p.F1_0 j)) (List.cons (SV.int (IntKind.u64) (p.F1_1 j)) [])))) (List.cons (HO.row ((27 : Nat)) ((2 : Nat)) (s.N2) (fun j => (List.cons (SV.int (IntKind.u64) (s.F2_0 j)) (List.cons (SV.int (IntKind.u64) (s.F2_1 j)) [])))) [])))))) (Tr.need (e21_0_8 p s) (Tr.need (e21_0_9 p s) (Tr.leaf (Rs.on (S21_0.mk ((e21_0_10 p s)) ((e21_0_11 p s)) ((e21_0_10 p s)) ((fun j => (e21_0_12 p s j))) ((fun j => (e21_0_13 p s j)))))))))))))))
noncomputable def r21_0 (p : P21_0) (s : S21_0) : Tr (Rs th.R S21_0) := (Tr.ite (e21_0_0 p s) (Tr.leaf (Rs.out (Ex.exit ((0:Nat))) (List.cons (Option.some (SV.slc ((0:Nat)) ((2 : Nat)) ((0:Nat)) (p.n0))) (none :: (none :: (List.cons (Option.some (SV.slc ((1 : Nat)) ((2 : Nat)) ((0:Nat)) (p.n3))) (none :: (none :: (none :: (none :: (none :: (none :: (none :: (none :: (none :: (none :: (none :: (none :: (none :: (none :: (none :: (none :: (none :: (none :: (none :: (none :: (none :: (none :: (none :: (none :: (none :: (none :: (none :: (none :: (none :: (none :: (none :: (none :: (none :: (none :: (none :: (none :: (none :: (none :: (none :: (none :: (none :: (none :: (none :: (none :: (none :: (none :: (none :: (none :: (none :: (none :: (none :: (none :: (none :: (none :: (none :: []))))))))))))))))))))))))))))))))))))))))))))))))))))))))))) (List.cons (HO.ro ((27 : Nat)) ((2 : Nat)) (p.N0) (fun j => (List.cons (SV.int (IntKind.u64) (p.F0_0 j)) (List.cons (SV.int (IntKind.u64) (p.F0_1 j)) []))) (p.O0)) (List.cons (HO.row ((27 : Nat)) ((2 : Nat)) (p.N1) (fun j => (List.cons (SV.int (IntKind.u64) (p.F1_0 j)) (List.cons (SV.int (IntKind.u64) (p.F1_1 j)) [])))) (List.cons (HO.row ((27 : Nat)) ((2 : Nat)) (s.N2) (fun j => (List.cons (SV.int (IntKind.u64) (s.F2_0 j)) (List.cons (SV.int (IntKind.u64) (s.F2_1 j)) [])))) []))))) (Tr.need (e21_0_2 p s) (Tr.need (e21_0_3 p s) (Tr.need (e21_0_5 p s) (Tr.need (e21_0_6 p s) (Tr.ite (e21_0_7 p s) (Tr.leaf (Rs.out (Ex.ret) (List.cons (Option.some (SV.slc ((0:Nat)) ((2 : Nat)) ((0:Nat)) (p.n0))) (none :: (List.cons (Option.some (SV.bool (false))) (List.cons (Option.some (SV.slc ((1 : Nat)) ((2 : Nat)) ((0:Nat)) (p.n3))) (none :: (none :: (none :: (none :: (none :: (none :: (none :: (none :: (none :: (none :: (none :: (none :: (none :: (none :: (none :: (none :: (none :: (none :: (none :: (none :: (none :: (none :: (none :: (none :: (none :: (none :: (none :: (none :: (none :: (none :: (none :: (none :: (none :: (none :: (none :: (none :: (none :: (none :: (none :: (none :: (none :: (none :: (none :: (none :: (none :: (none :: (none :: (none :: (none :: (none :: (none :: (none :: (none :: (none :: (none :: []))))))))))))))))))))))))))))))))))))))))))))))))))))))))))) (List.cons (HO.ro ((27 : Nat)) ((2 : Nat)) (p.N0) (fun j => (List.cons (SV.int (IntKind.u64) (p.F0_0 j)) (List.cons (SV.int (IntKind.u64) (p.F0_1 j)) []))) (p.O0)) (List.cons (HO.row ((27 : Nat)) ((2 : Nat)) (p.N1) (fun j => (List.cons (SV.int (IntKind.u64) (p.F1_0 j)) (List.cons (SV.int (IntKind.u64) (p.F1_1 j)) [])))) (List.cons (HO.row ((27 : Nat)) ((2 : Nat)) (s.N2) (fun j => (List.cons (SV.int (IntKind.u64) (s.F2_0 j)) (List.cons (SV.int (IntKind.u64) (s.F2_1 j)) [])))) []))))) (Tr.need (e21_0_8 p s) (Tr.leaf (Rs.on (S21_0.mk ((e21_0_10 p s)) ((e21_0_11 p s)) ((e21_0_10 p s)) ((fun j => (e21_0_12 p s j))) ((fun j => (e21_0_13 p s j)))))))))))))
noncomputable def E21_0 : St th.R → Out th := evCode th Try.prog (auto th Try.prog nice36n [] 20) (autoH [(6, L21_1)] [] [] [4] : Hints th) (lpAt Try.prog 21 0)
theorem ok21_0 : LoopsOk th Try.prog (autoH [(6, L21_1)] [] [] [4] : Hints th) (lpAt Try.prog 21 0) := autoH_ok (bs := [lpAt Try.prog 21 1]) (by kernel_rfl) fun b hb L hL => by
  simp only [List.mem_cons, List.not_mem_nil, or_false] at hb
  rcases hb with rfl
  · have e : lookL [(6, L21_1)] (firstReg (lpAt Try.prog 21 1)) = some L21_1 := by kernel_rfl
    rw [e] at hL; cases hL
    exact ls21_1
theorem B21_0 : CodeSound th Try.prog (lpAt Try.prog 21 0) E21_0 := evCode_sound (T := th) (P := Try.prog) (tbl := (auto th Try.prog nice36n [] 20)) (auto_sound (nice := nice36n) (us := []) nok36n 20) (autoH [(6, L21_1)] [] [] [4] : Hints th) _ ok21_0
noncomputable def L21_0 : St th.R → Out th := loopL d21_0 ofV21_0 r21_0
theorem h1_21_0 (p : P21_0) (s : S21_0) : bld d21_0.tm (toV21_0 p s) = some (I21_0 p s) := by kernel_rfl
theorem h2_21_0 (l : List (Vl th.R)) (p : P21_0) (s : S21_0) (h : ofV21_0 l = some (p, s)) : l = toV21_0 p s := by
  unfold ofV21_0 at h
  split at h
  · cases h; rfl
  · cases h
theorem h3_21_0 (p : P21_0) (s : S21_0) : cvE d21_0 (E21_0 (I21_0 p s)) = some ((rf21_0 p s).map (Rs.map (toV21_0 p))) := by kernel_rfl
theorem h3g_21_0 (p : P21_0) (s : S21_0) : (rf21_0 p s).get = (r21_0 p s).get := by kernel_rfl
theorem h4_21_0 (p : P21_0) (s s1 : S21_0) : outH d21_0.dirt d21_0.n0 (r21_0 p s) = repH (maskH d21_0.dirt 0 d21_0.n0 (I21_0 p s1).heap) (r21_0 p s) := by kernel_rfl
theorem ls21_0 : CodeSound th Try.prog (.loop (lpAt Try.prog 21 0)) L21_0 := loopL_sound B21_0 d21_0 I21_0 toV21_0 (by kernel_rfl) h1_21_0 h2_21_0
  (fun p s => ⟨(rf21_0 p s).map (Rs.map (toV21_0 p)), h3_21_0 p s, fun h => by
    rw [Tr.map_ok]
    unfold r21_0 at h; unfold rf21_0
    simp only [Tr.ok, n_e21_0_1, n_e21_0_4, n_e21_0_9, true_and, and_true, forall_const, implies_true] at h ⊢
    try exact h, by rw [Tr.map_get, h3g_21_0 p s]⟩) h4_21_0
theorem ok21 : LoopsOk th Try.prog (autoH [(4, L21_0)] [] [] [4] : Hints th) (bodyOf Try.prog 21) := autoH_ok (bs := [lpAt Try.prog 21 0, lpAt Try.prog 21 1]) (by kernel_rfl) fun b hb L hL => by
  simp only [List.mem_cons, List.not_mem_nil, or_false] at hb
  rcases hb with rfl | rfl
  · have e : lookL [(4, L21_0)] (firstReg (lpAt Try.prog 21 0)) = some L21_0 := by kernel_rfl
    rw [e] at hL; cases hL
    exact ls21_0
  · have e : lookL [(4, L21_0)] (firstReg (lpAt Try.prog 21 1)) = (none : Option (St th.R → Out th)) := by kernel_rfl
    rw [e] at hL; cases hL
noncomputable def f21_0 (v : V21) : (Prop) := ∀ (i : Nat), scpL (0:Nat) ((fun (j : Nat) => [SV.int IntKind.u64 (v.F j), SV.int IntKind.u64 (v.G j)]) i) = true
noncomputable def f21_1 (v : V21) : (Prop) := ∀ (i : Nat), i < v.M → (fun (j : Nat) => [SV.int IntKind.u64 (v.F j), SV.int IntKind.u64 (v.G j)]) i = elC (fun (j : Nat) => [SV.int IntKind.u64 (v.F j), SV.int IntKind.u64 (v.G j)]) (0:Nat) [Ck.int IntKind.u64, Ck.int IntKind.u64] i
noncomputable def f21_2 (v : V21) : (Prop) := pre36 (V36.mk v.L v.M v.ob v.F v.G)
noncomputable def f21_3 (v : V21) : (Prop) := (∀ (i : Nat), scpL (0:Nat) ((fun (j : Nat) => [SV.int IntKind.u64 (v.F j), SV.int IntKind.u64 (v.G j)]) i) = true) ∧ ∀ (i : Nat), scpL (0:Nat) ((fun (j : Nat) => [SV.int IntKind.u64 (RSr (sp v.F v.G) v.L j).fst, SV.int IntKind.u64 (RSr (sp v.F v.G) v.L j).snd]) i) = true
noncomputable def f21_4 (v : V21) : (Prop) := (∀ (i : Nat), i < v.M → (fun (j : Nat) => [SV.int IntKind.u64 (v.F j), SV.int IntKind.u64 (v.G j)]) i = elC (fun (j : Nat) => [SV.int IntKind.u64 (v.F j), SV.int IntKind.u64 (v.G j)]) (0:Nat) [Ck.int IntKind.u64, Ck.int IntKind.u64] i) ∧ (∀ (i : Nat), i < v.L → (fun (j : Nat) => [SV.int IntKind.u64 (RSr (sp v.F v.G) v.L j).fst, SV.int IntKind.u64 (RSr (sp v.F v.G) v.L j).snd]) i = elC (fun (j : Nat) => [SV.int IntKind.u64 (RSr (sp v.F v.G) v.L j).fst, SV.int IntKind.u64 (RSr (sp v.F v.G) v.L j).snd]) (0:Nat) [Ck.int IntKind.u64, Ck.int IntKind.u64] i) ∧ ∀ (i : Nat), i < (0:Nat) → (fun (j : Nat) => []) i = elC (fun (j : Nat) => []) (0:Nat) [Ck.int IntKind.u64, Ck.int IntKind.u64] i
noncomputable def f21_5 (v : V21) : (Prop) := LT (r21_0 (P21_0.mk v.L (RS (sp v.F v.G) v.L).length (RS (sp v.F v.G) v.L).length (↑(RS (sp v.F v.G) v.L).length : Int) v.M v.ob v.F v.G v.L (fun (j : Nat) => (RSr (sp v.F v.G) v.L j).fst) fun (j : Nat) => (RSr (sp v.F v.G) v.L j).snd)) (S21_0.mk (0:Nat) (0 : Int) (0:Nat) (colI (fun (j : Nat) => []) (0:Nat)) (colI (fun (j : Nat) => []) (1 : Nat)))
noncomputable def f21z0 (v : V21) : S21_0 := lastS (r21_0 (P21_0.mk v.L (RS (sp v.F v.G) v.L).length (RS (sp v.F v.G) v.L).length (↑(RS (sp v.F v.G) v.L).length : Int) v.M v.ob v.F v.G v.L (fun (j : Nat) => (RSr (sp v.F v.G) v.L j).fst) fun (j : Nat) => (RSr (sp v.F v.G) v.L j).snd)) (S21_0.mk (0:Nat) (0 : Int) (0:Nat) (colI (fun (j : Nat) => []) (0:Nat)) (colI (fun (j : Nat) => []) (1 : Nat)))
noncomputable def f21_6 (v : V21) : (Bool) := cnd (cnd (e21_0_0 (P21_0.mk v.L (RS (sp v.F v.G) v.L).length (RS (sp v.F v.G) v.L).length (↑(RS (sp v.F v.G) v.L).length : Int) v.M v.ob v.F v.G v.L (fun (j : Nat) => (RSr (sp v.F v.G) v.L j).fst) fun (j : Nat) => (RSr (sp v.F v.G) v.L j).snd) (f21z0 v)) false true) false ((↑(RS (sp v.F v.G) v.L).length : Int) == (↑v.L : Int))
theorem n_f21_0 (v : V21) : f21_0 v := by
  unfold f21_0
  first
    | (intros; rfl)
    | (intro i; rfl)
    | (intro i _; rfl)
    | (intro _ i; rfl)
    | (intro _ i _; rfl)
    | (refine ⟨?_, ?_⟩ <;> intro i <;> rfl)
    | (refine ⟨?_, ?_, ?_⟩ <;> intro i <;> rfl)
    | (refine ⟨?_, ?_⟩ <;> intro i _ <;> rfl)
    | (repeat' apply And.intro) <;> first | (intro i; rfl) | (intro i _; rfl) | (intro i h; exact absurd h (Nat.not_lt_zero i)) | (intro i; exact scpL_rowSet (by rfl) (by rfl)) | (intro i; exact scpL_rowEl (by kernel_rfl) _)
    | (intros; (repeat' apply And.intro) <;> intros <;> first | rfl | (exact absurd (by assumption) (Nat.not_lt_zero _)))
    | omega
    | decide
theorem n_f21_1 (v : V21) : f21_1 v := by
  unfold f21_1
  first
    | (intros; rfl)
    | (intro i; rfl)
    | (intro i _; rfl)
    | (intro _ i; rfl)
    | (intro _ i _; rfl)
    | (refine ⟨?_, ?_⟩ <;> intro i <;> rfl)
    | (refine ⟨?_, ?_, ?_⟩ <;> intro i <;> rfl)
    | (refine ⟨?_, ?_⟩ <;> intro i _ <;> rfl)
    | (repeat' apply And.intro) <;> first | (intro i; rfl) | (intro i _; rfl) | (intro i h; exact absurd h (Nat.not_lt_zero i)) | (intro i; exact scpL_rowSet (by rfl) (by rfl)) | (intro i; exact scpL_rowEl (by kernel_rfl) _)
    | (intros; (repeat' apply And.intro) <;> intros <;> first | rfl | (exact absurd (by assumption) (Nat.not_lt_zero _)))
    | omega
    | decide
theorem n_f21_3 (v : V21) : f21_3 v := by
  unfold f21_3
  first
    | (intros; rfl)
    | (intro i; rfl)
    | (intro i _; rfl)
    | (intro _ i; rfl)
    | (intro _ i _; rfl)
    | (refine ⟨?_, ?_⟩ <;> intro i <;> rfl)
    | (refine ⟨?_, ?_, ?_⟩ <;> intro i <;> rfl)
    | (refine ⟨?_, ?_⟩ <;> intro i _ <;> rfl)
    | (repeat' apply And.intro) <;> first | (intro i; rfl) | (intro i _; rfl) | (intro i h; exact absurd h (Nat.not_lt_zero i)) | (intro i; exact scpL_rowSet (by rfl) (by rfl)) | (intro i; exact scpL_rowEl (by kernel_rfl) _)
    | (intros; (repeat' apply And.intro) <;> intros <;> first | rfl | (exact absurd (by assumption) (Nat.not_lt_zero _)))
    | omega
    | decide
theorem n_f21_4 (v : V21) : f21_4 v := by
  unfold f21_4
  first
    | (intros; rfl)
    | (intro i; rfl)
    | (intro i _; rfl)
    | (intro _ i; rfl)
    | (intro _ i _; rfl)
    | (refine ⟨?_, ?_⟩ <;> intro i <;> rfl)
    | (refine ⟨?_, ?_, ?_⟩ <;> intro i <;> rfl)
    | (refine ⟨?_, ?_⟩ <;> intro i _ <;> rfl)
    | (repeat' apply And.intro) <;> first | (intro i; rfl) | (intro i _; rfl) | (intro i h; exact absurd h (Nat.not_lt_zero i)) | (intro i; exact scpL_rowSet (by rfl) (by rfl)) | (intro i; exact scpL_rowEl (by kernel_rfl) _)
    | (intros; (repeat' apply And.intro) <;> intros <;> first | rfl | (exact absurd (by assumption) (Nat.not_lt_zero _)))
    | omega
    | decide
noncomputable def ff21 (v : V21) : Tr (Fin th.R) := (Tr.need (f21_0 v) (Tr.need (f21_1 v) (Tr.need (f21_2 v) (Tr.need (f21_3 v) (Tr.need (f21_4 v) (Tr.need (f21_5 v) (Tr.leaf (Prod.mk (SV.bool (f21_6 v)) (Prod.mk (List.cons (HO.ro ((27 : Nat)) ((2 : Nat)) (v.M) (fun j => (List.cons (SV.int (IntKind.u64) (v.F j)) (List.cons (SV.int (IntKind.u64) (v.G j)) []))) (v.ob)) []) [])))))))))
noncomputable def f21 (v : V21) : Tr (Fin th.R) := (Tr.need (f21_2 v) (Tr.need (f21_5 v) (Tr.leaf (Prod.mk (SV.bool (f21_6 v)) (Prod.mk (List.cons (HO.ro ((27 : Nat)) ((2 : Nat)) (v.M) (fun j => (List.cons (SV.int (IntKind.u64) (v.F j)) (List.cons (SV.int (IntKind.u64) (v.G j)) []))) (v.ob)) []) ([]))))))
noncomputable def C21 : CF th.R := fnC d21 ofV21 (f21 )
theorem q21 (v : V21) : (evFn th Try.prog (auto th Try.prog nice36n [] 20) (autoH [(4, L21_0)] [] [] [4] : Hints th) 21) (A21 v) (H21 v) = some (ff21 v) := by kernel_rfl
theorem qg21 (v : V21) : ((ff21 v).map (setD [])).get = (f21 v).get := by kernel_rfl
theorem qd21 (v : V21) : allD 1 [] (ff21 v) = true := by kernel_rfl
theorem s21 : Sound Try.prog th 21 (C21 ) := fnC_sound (evFn_sound' (T := th) (P := Try.prog) (tbl := (auto th Try.prog nice36n [] 20)) (auto_sound (nice := nice36n) (us := []) nok36n 20) (H := (autoH [(4, L21_0)] [] [] [4] : Hints th)) (k := 21) (fnLoops ok21)) d21 A21 H21 toV21 (by kernel_rfl) (fun v => by kernel_rfl)
  (fun l v h => by
    unfold ofV21 at h
    split at h
    · cases h; rfl
    · cases h)
  [] (fun v => ⟨ff21 v, q21 v, fun h => by
    unfold f21 at h; unfold ff21
    simp only [Tr.ok, n_f21_0, n_f21_1, n_f21_3, n_f21_4, true_and, and_true, forall_const, implies_true] at h ⊢
    try exact h, qg21 v, qd21 v⟩)
theorem qdd21 (v : V21) : (f21 v).get.2.2 = [] := by
  rw [← qg21, Tr.map_get]; rfl
end Go.Sx.S

namespace Go.Sx.S
open Go Go.Sx Go.Proofs Go.RowKit
set_option maxRecDepth 100000
structure V20 where
  L : Nat
  M : Nat
  ob : Obj
  F : Nat → Int
  G : Nat → Int
def A20 (v : V20) : List SV := [.slc 0 2 0 v.L]
def H20 (v : V20) : List (HO th.R) := [.ro 27 2 v.M (fun j => [.int .u64 (v.F j), .int .u64 (v.G j)]) v.ob]
def toV20 (v : V20) : List (Vl th.R) := [.n v.L, .n v.M, .o v.ob, .c v.F, .c v.G]
def ofV20 : List (Vl th.R) → Option V20
  | [.n L, .n M, .o ob, .c F, .c G] => some ⟨L, M, ob, F, G⟩
  | _ => none
def d20 : Ft := ⟨[.slc0 0 2], [.roc 27 [.int .u64, .int .u64]]⟩
structure P20_0 where
  n0 : Nat
  b2 : Bool
  n3 : Nat
  N0 : Nat
  O0 : Obj
  F0_0 : Nat → Int
  F0_1 : Nat → Int
  N1 : Nat
  F1_0 : Nat → Int
  F1_1 : Nat → Int
structure S20_0 where
  x4 : Int
instance : Inhabited S20_0 := ⟨⟨0⟩⟩
def I20_0 (p : P20_0) (s : S20_0) : St th.R := ⟨[some (.slc 0 2 0 p.n0), none, some (.bool p.b2), some (.slc 1 2 0 p.n3), some (.int .i64 s.x4), none, none, none, none, none, none, none, none, none, none, none, none, none, none, none, none, none, none, none, none, none, none, none], [.ro 27 2 p.N0 (fun j => [.int .u64 (p.F0_0 j), .int .u64 (p.F0_1 j)]) p.O0, .row 27 2 p.N1 (fun j => [.int .u64 (p.F1_0 j), .int .u64 (p.F1_1 j)])], [], []⟩
def d20_0 : Lp := ⟨⟨28, [(0, .slc0 0 2), (2, .bool), (3, .slc0 1 2), (4, .int .i64)], [.roc 27 [.int .u64, .int .u64], .rowc 27 [.int .u64, .int .u64]]⟩, [], 2, [], [0, 2, 3], []⟩
def toV20_0 (p : P20_0) (s : S20_0) : List (Vl th.R) := [.n p.n0, .b p.b2, .n p.n3, .i s.x4, .n p.N0, .o p.O0, .c p.F0_0, .c p.F0_1, .n p.N1, .c p.F1_0, .c p.F1_1]
def ofV20_0 : List (Vl th.R) → Option (P20_0 × S20_0)
  | [.n n0, .b b2, .n n3, .i x4, .n N0, .o O0, .c F0_0, .c F0_1, .n N1, .c F1_0, .c F1_1] => some (⟨n0, b2, n3, N0, O0, F0_0, F0_1, N1, F1_0, F1_1⟩, ⟨x4⟩)
  | _ => none
noncomputable def e20_0_0 (p : P20_0) (s : S20_0) : (Bool) := cnd (decide (s.x4 < (↑p.n3 : Int))) false true
noncomputable def e20_0_1 (p : P20_0) (s : S20_0) : (Prop) := (∀ (i : Nat), scpL (0:Nat) ((fun (j : Nat) => [SV.int IntKind.u64 (p.F0_0 j), SV.int IntKind.u64 (p.F0_1 j)]) i) = true) ∧ ∀ (i : Nat), scpL (0:Nat) ((fun (j : Nat) => [SV.int IntKind.u64 (p.F1_0 j), SV.int IntKind.u64 (p.F1_1 j)]) i) = true
noncomputable def e20_0_2 (p : P20_0) (s : S20_0) : (Prop) := (true = true → (0 : Int) ≤ IntKind.i64.wrap (s.x4 - (1 : Int)) ∧ IntKind.i64.wrap (s.x4 - (1 : Int)) < (↑p.n3 : Int)) ∧ (true = true → (0:Nat) + (IntKind.i64.wrap (s.x4 - (1 : Int))).toNat < p.N1) ∧ (true = true → (0 : Int) ≤ s.x4 ∧ s.x4 < (↑p.n3 : Int)) ∧ (true = true → (0:Nat) + s.x4.toNat < p.N1)
noncomputable def e20_0_3 (p : P20_0) (s : S20_0) : (Bool) := f13_0 (p.F1_0 ((0:Nat) + (IntKind.i64.wrap (s.x4 - (1 : Int))).toNat)) (p.F1_1 ((0:Nat) + (IntKind.i64.wrap (s.x4 - (1 : Int))).toNat)) (p.F1_0 ((0:Nat) + s.x4.toNat)) (p.F1_1 ((0:Nat) + s.x4.toNat))
noncomputable def e20_0_4 (p : P20_0) (s : S20_0) : (Prop) := ((∀ (i : Nat), scpL (0:Nat) ((fun (j : Nat) => [SV.int IntKind.u64 (p.F0_0 j), SV.int IntKind.u64 (p.F0_1 j)]) i) = true) ∧ ∀ (i : Nat), scpL (0:Nat) ((fun (j : Nat) => [SV.int IntKind.u64 (p.F1_0 j), SV.int IntKind.u64 (p.F1_1 j)]) i) = true) ∧ (∀ (i : Nat), i < p.N0 → (fun (j : Nat) => [SV.int IntKind.u64 (p.F0_0 j), SV.int IntKind.u64 (p.F0_1 j)]) i = elC (fun (j : Nat) => [SV.int IntKind.u64 (p.F0_0 j), SV.int IntKind.u64 (p.F0_1 j)]) (0:Nat) [Ck.int IntKind.u64, Ck.int IntKind.u64] i) ∧ ∀ (i : Nat), i < p.N1 → (fun (j : Nat) => [SV.int IntKind.u64 (p.F1_0 j), SV.int IntKind.u64 (p.F1_1 j)]) i = elC (fun (j : Nat) => [SV.int IntKind.u64 (p.F1_0 j), SV.int IntKind.u64 (p.F1_1 j)]) (0:Nat) [Ck.int IntKind.u64, Ck.int IntKind.u64] i
noncomputable def e20_0_5 (p : P20_0) (s : S20_0) : (Int) := IntKind.i64.wrap (s.x4 + (1 : Int))
theorem n_e20_0_1 (p : P20_0) (s : S20_0) : e20_0_1 p s := by
  unfold e20_0_1
  first
    | (intros; rfl)
    | (intro i; rfl)
    | (intro i _; rfl)
    | (intro _ i; rfl)
    | (intro _ i _; rfl)
    | (refine ⟨?_, ?_⟩ <;> intro i <;> rfl)
    | (refine ⟨?_, ?_, ?_⟩ <;> intro i <;> rfl)
    | (refine ⟨?_, ?_⟩ <;> intro i _ <;> rfl)
    | (repeat' apply And.intro) <;> first | (intro i; rfl) | (intro i _; rfl) | (intro i h; exact absurd h (Nat.not_lt_zero i)) | (intro i; exact scpL_rowSet (by rfl) (by rfl)) | (intro i; exact scpL_rowEl (by kernel_rfl) _)
    | (intros; (repeat' apply And.intro) <;> intros <;> first | rfl | (exact absurd (by assumption) (Nat.not_lt_zero _)))
    | omega
    | decide
theorem n_e20_0_4 (p : P20_0) (s : S20_0) : e20_0_4 p s := by
  unfold e20_0_4
  first
    | (intros; rfl)
    | (intro i; rfl)
    | (intro i _; rfl)
    | (intro _ i; rfl)
    | (intro _ i _; rfl)
    | (refine ⟨?_, ?_⟩ <;> intro i <;> rfl)
    | (refine ⟨?_, ?_, ?_⟩ <;> intro i <;> rfl)
    | (refine ⟨?_, ?_⟩ <;> intro i _ <;> rfl)
    | (repeat' apply And.intro) <;> first | (intro i; rfl) | (intro i _; rfl) | (intro i h; exact absurd h (Nat.not_lt_zero i)) | (intro i; exact scpL_rowSet (by rfl) (by rfl)) | (intro i; exact scpL_rowEl (by kernel_rfl) _)
    | (intros; (repeat' apply And.intro) <;> intros <;> first | rfl | (exact absurd (by assumption) (Nat.not_lt_zero _)))
    | omega
    | decide
noncomputable def rf20_0 (p : P20_0) (s : S20_0) : Tr (Rs th.R S20_0) := (Tr.ite (e20_0_0 p s) (Tr.need (e20_0_1 p s) (Tr.leaf (Rs.out (Ex.exit ((0:Nat))) (List.cons (Option.some (SV.slc ((0:Nat)) ((2 : Nat)) ((0:Nat)) (p.n0))) (none :: (List.cons (Option.some (SV.bool (p.b2))) (List.cons (Option.some (SV.slc ((1 : Nat)) ((2 : Nat)) ((0:Nat)) (p.n3))) (none :: (none :: (none :: (none :: (none :: (none :: (none :: (none :: (none :: (none :: (none :: (none :: (none :: (none :: (none :: (none :: (none :: (none :: (none :: (none :: (none :: (none :: (none :: (none :: [])))))))))))))))))))))))))))) (List.cons (HO.ro ((27 : Nat)) ((2 : Nat)) (p.N0) (fun j => (List.cons (SV.int (IntKind.u64) (p.F0_0 j)) (List.cons (SV.int (IntKind.u64) (p.F0_1 j)) []))) (p.O0)) (List.cons (HO.row ((27 : Nat)) ((2 : Nat)) (p.N1) (fun j => (List.cons (SV.int (IntKind.u64) (p.F1_0 j)) (List.cons (SV.int (IntKind.u64) (p.F1_1 j)) [])))) []))))) (Tr.need (e20_0_2 p s) (Tr.ite (e20_0_3 p s) (Tr.need (e20_0_1 p s) (Tr.leaf (Rs.out (Ex.ret) (List.cons (Option.some (SV.slc ((0:Nat)) ((2 : Nat)) ((0:Nat)) (p.n0))) (none :: (List.cons (Option.some (SV.bool (false))) (List.cons (Option.some (SV.slc ((1 : Nat)) ((2 : Nat)) ((0:Nat)) (p.n3))) (none :: (none :: (none :: (none :: (none :: (none :: (none :: (none :: (none :: (none :: (none :: (none :: (none :: (none :: (none :: (none :: (none :: (none :: (none :: (none :: (none :: (none :: (none :: (none :: [])))))))))))))))))))))))))))) (List.cons (HO.ro ((27 : Nat)) ((2 : Nat)) (p.N0) (fun j => (List.cons (SV.int (IntKind.u64) (p.F0_0 j)) (List.cons (SV.int (IntKind.u64) (p.F0_1 j)) []))) (p.O0)) (List.cons (HO.row ((27 : Nat)) ((2 : Nat)) (p.N1) (fun j => (List.cons (SV.int (IntKind.u64) (p.F1_0 j)) (List.cons (SV.int (IntKind.u64) (p.F1_1 j)) [])))) []))))) (Tr.need (e20_0_4 p s) (Tr.leaf (Rs.on (S20_0.mk ((e20_0_5 p s)))))))))
noncomputable def r20_0 (p : P20_0) (s : S20_0) : Tr (Rs th.R S20_0) := (Tr.ite (e20_0_0 p s) (Tr.leaf (Rs.out (Ex.exit ((0:Nat))) (List.cons (Option.some (SV.slc ((0:Nat)) ((2 : Nat)) ((0:Nat)) (p.n0))) (none :: (List.cons (Option.some (SV.bool (p.b2))) (List.cons (Option.some (SV.slc ((1 : Nat)) ((2 : Nat)) ((0:Nat)) (p.n3))) (none :: (none :: (none :: (none :: (none :: (none :: (none :: (none :: (none :: (none :: (none :: (none :: (none :: (none :: (none :: (none :: (none :: (none :: (none :: (none :: (none :: (none :: (none :: (none :: [])))))))))))))))))))))))))))) (List.cons (HO.ro ((27 : Nat)) ((2 : Nat)) (p.N0) (fun j => (List.cons (SV.int (IntKind.u64) (p.F0_0 j)) (List.cons (SV.int (IntKind.u64) (p.F0_1 j)) []))) (p.O0)) (List.cons (HO.row ((27 : Nat)) ((2 : Nat)) (p.N1) (fun j => (List.cons (SV.int (IntKind.u64) (p.F1_0 j)) (List.cons (SV.int (IntKind.u64) (p.F1_1 j)) [])))) [])))) (Tr.need (e20_0_2 p s) (Tr.ite (e20_0_3 p s) (Tr.leaf (Rs.out (Ex.ret) (List.cons (Option.some (SV.slc ((0:Nat)) ((2 : Nat)) ((0:Nat)) (p.n0))) (none :: (List.cons (Option.some (SV.bool (false))) (List.cons (Option.some (SV.slc ((1 : Nat)) ((2 : Nat)) ((0:Nat)) (p.n3))) (none :: (none :: (none :: (none :: (none :: (none :: (none :: (none :: (none :: (none :: (none :: (none :: (none :: (none :: (none :: (none :: (none :: (none :: (none :: (none :: (none :: (none :: (none :: (none :: [])))))))))))))))))))))))))))) (List.cons (HO.ro ((27 : Nat)) ((2 : Nat)) (p.N0) (fun j => (List.cons (SV.int (IntKind.u64) (p.F0_0 j)) (List.cons (SV.int (IntKind.u64) (p.F0_1 j)) []))) (p.O0)) (List.cons (HO.row ((27 : Nat)) ((2 : Nat)) (p.N1) (fun j => (List.cons (SV.int (IntKind.u64) (p.F1_0 j)) (List.cons (SV.int (IntKind.u64) (p.F1_1 j)) [])))) [])))) (Tr.leaf (Rs.on (S20_0.mk ((e20_0_5 p s))))))))
noncomputable def E20_0 : St th.R → Out th := evCode th Try.prog (auto th Try.prog nice36n [] 20) (autoH [] [] [] [] : Hints th) (lpAt Try.prog 20 0)
theorem B20_0 : CodeSound th Try.prog (lpAt Try.prog 20 0) E20_0 := evCode_sound (T := th) (P := Try.prog) (tbl := (auto th Try.prog nice36n [] 20)) (auto_sound (nice := nice36n) (us := []) nok36n 20) (autoH [] [] [] [] : Hints th) _ (LoopsOk_mem (fun _ => rfl) _ fun b hb L hL => by cases hL)
noncomputable def L20_0 : St th.R → Out th := loopL d20_0 ofV20_0 r20_0
theorem h1_20_0 (p : P20_0) (s : S20_0) : bld d20_0.tm (toV20_0 p s) = some (I20_0 p s) := by kernel_rfl
theorem h2_20_0 (l : List (Vl th.R)) (p : P20_0) (s : S20_0) (h : ofV20_0 l = some (p, s)) : l = toV20_0 p s := by
  unfold ofV20_0 at h
  split at h
  · cases h; rfl
  · cases h
theorem h3_20_0 (p : P20_0) (s : S20_0) : cvE d20_0 (E20_0 (I20_0 p s)) = some ((rf20_0 p s).map (Rs.map (toV20_0 p))) := by kernel_rfl
theorem h3g_20_0 (p : P20_0) (s : S20_0) : (rf20_0 p s).get = (r20_0 p s).get := by kernel_rfl
theorem h4_20_0 (p : P20_0) (s s1 : S20_0) : outH d20_0.dirt d20_0.n0 (r20_0 p s) = repH (maskH d20_0.dirt 0 d20_0.n0 (I20_0 p s1).heap) (r20_0 p s) := by kernel_rfl
theorem ls20_0 : CodeSound th Try.prog (.loop (lpAt Try.prog 20 0)) L20_0 := loopL_sound B20_0 d20_0 I20_0 toV20_0 (by kernel_rfl) h1_20_0 h2_20_0
  (fun p s => ⟨(rf20_0 p s).map (Rs.map (toV20_0 p)), h3_20_0 p s, fun h => by
    rw [Tr.map_ok]
    unfold r20_0 at h; unfold rf20_0
    simp only [Tr.ok, n_e20_0_1, n_e20_0_4, true_and, and_true, forall_const, implies_true] at h ⊢
    try exact h, by rw [Tr.map_get, h3g_20_0 p s]⟩) h4_20_0
theorem ok20 : LoopsOk th Try.prog (autoH [(3, L20_0)] [] [] [] : Hints th) (bodyOf Try.prog 20) := autoH_ok (bs := [lpAt Try.prog 20 0]) (by kernel_rfl) fun b hb L hL => by
  simp only [List.mem_cons, List.not_mem_nil, or_false] at hb
  rcases hb with rfl
  · have e : lookL [(3, L20_0)] (firstReg (lpAt Try.prog 20 0)) = some L20_0 := by kernel_rfl
    rw [e] at hL; cases hL
    exact ls20_0
noncomputable def f20_0 (v : V20) : (Prop) := ∀ (i : Nat), scpL (0:Nat) ((fun (j : Nat) => [SV.int IntKind.u64 (v.F j), SV.int IntKind.u64 (v.G j)]) i) = true
noncomputable def f20_1 (v : V20) : (Prop) := ∀ (i : Nat), i < v.M → (fun (j : Nat) => [SV.int IntKind.u64 (v.F j), SV.int IntKind.u64 (v.G j)]) i = elC (fun (j : Nat) => [SV.int IntKind.u64 (v.F j), SV.int IntKind.u64 (v.G j)]) (0:Nat) [Ck.int IntKind.u64, Ck.int IntKind.u64] i
noncomputable def f20_2 (v : V20) : (Prop) := pre36 (V36.mk v.L v.M v.ob v.F v.G)
noncomputable def f20_3 (v : V20) : (Prop) := (∀ (i : Nat), scpL (0:Nat) ((fun (j : Nat) => [SV.int IntKind.u64 (v.F j), SV.int IntKind.u64 (v.G j)]) i) = true) ∧ ∀ (i : Nat), scpL (0:Nat) ((fun (j : Nat) => [SV.int IntKind.u64 (RSr (sp v.F v.G) v.L j).fst, SV.int IntKind.u64 (RSr (sp v.F v.G) v.L j).snd]) i) = true
noncomputable def f20_4 (v : V20) : (Prop) := (∀ (i : Nat), i < v.M → (fun (j : Nat) => [SV.int IntKind.u64 (v.F j), SV.int IntKind.u64 (v.G j)]) i = elC (fun (j : Nat) => [SV.int IntKind.u64 (v.F j), SV.int IntKind.u64 (v.G j)]) (0:Nat) [Ck.int IntKind.u64, Ck.int IntKind.u64] i) ∧ ∀ (i : Nat), i < v.L → (fun (j : Nat) => [SV.int IntKind.u64 (RSr (sp v.F v.G) v.L j).fst, SV.int IntKind.u64 (RSr (sp v.F v.G) v.L j).snd]) i = elC (fun (j : Nat) => [SV.int IntKind.u64 (RSr (sp v.F v.G) v.L j).fst, SV.int IntKind.u64 (RSr (sp v.F v.G) v.L j).snd]) (0:Nat) [Ck.int IntKind.u64, Ck.int IntKind.u64] i
noncomputable def f20_5 (v : V20) : (Prop) := LT (r20_0 (P20_0.mk v.L false (RS (sp v.F v.G) v.L).length v.M v.ob v.F v.G v.L (fun (j : Nat) => (RSr (sp v.F v.G) v.L j).fst) fun (j : Nat) => (RSr (sp v.F v.G) v.L j).snd)) (S20_0.mk (1 : Int))
noncomputable def f20z0 (v : V20) : S20_0 := lastS (r20_0 (P20_0.mk v.L false (RS (sp v.F v.G) v.L).length v.M v.ob v.F v.G v.L (fun (j : Nat) => (RSr (sp v.F v.G) v.L j).fst) fun (j : Nat) => (RSr (sp v.F v.G) v.L j).snd)) (S20_0.mk (1 : Int))
noncomputable def f20_6 (v : V20) : (Bool) := cnd (cnd (e20_0_0 (P20_0.mk v.L false (RS (sp v.F v.G) v.L).length v.M v.ob v.F v.G v.L (fun (j : Nat) => (RSr (sp v.F v.G) v.L j).fst) fun (j : Nat) => (RSr (sp v.F v.G) v.L j).snd) (f20z0 v)) false true) false ((↑(RS (sp v.F v.G) v.L).length : Int) == (↑v.L : Int))
theorem n_f20_0 (v : V20) : f20_0 v := by
  unfold f20_0
  first
    | (intros; rfl)
    | (intro i; rfl)
    | (intro i _; rfl)
    | (intro _ i; rfl)
    | (intro _ i _; rfl)
    | (refine ⟨?_, ?_⟩ <;> intro i <;> rfl)
    | (refine ⟨?_, ?_, ?_⟩ <;> intro i <;> rfl)
    | (refine ⟨?_, ?_⟩ <;> intro i _ <;> rfl)
    | (repeat' apply And.intro) <;> first | (intro i; rfl) | (intro i _; rfl) | (intro i h; exact absurd h (Nat.not_lt_zero i)) | (intro i; exact scpL_rowSet (by rfl) (by rfl)) | (intro i; exact scpL_rowEl (by kernel_rfl) _)
    | (intros; (repeat' apply And.intro) <;> intros <;> first | rfl | (exact absurd (by assumption) (Nat.not_lt_zero _)))
    | omega
    | decide
theorem n_f20_1 (v : V20) : f20_1 v := by
  unfold f20_1
  first
    | (intros; rfl)
    | (intro i; rfl)
    | (intro i _; rfl)
    | (intro _ i; rfl)
    | (intro _ i _; rfl)
    | (refine ⟨?_, ?_⟩ <;> intro i <;> rfl)
    | (refine ⟨?_, ?_, ?_⟩ <;> intro i <;> rfl)
    | (refine ⟨?_, ?_⟩ <;> intro i _ <;> rfl)
    | (repeat' apply And.intro) <;> first | (intro i; rfl) | (intro i _; rfl) | (intro i h; exact absurd h (Nat.not_lt_zero i)) | (intro i; exact scpL_rowSet (by rfl) (by rfl)) | (intro i; exact scpL_rowEl (by kernel_rfl) _)
    | (intros; (repeat' apply And.intro) <;> intros <;> first | rfl | (exact absurd (by assumption) (Nat.not_lt_zero _)))
    | omega
    | decide
theorem n_f20_3 (v : V20) : f20_3 v := by
  unfold f20_3
  first
    | (intros; rfl)
    | (intro i; rfl)
    | (intro i _; rfl)
    | (intro _ i; rfl)
    | (intro _ i _; rfl)
    | (refine ⟨?_, ?_⟩ <;> intro i <;> rfl)
    | (refine ⟨?_, ?_, ?_⟩ <;> intro i <;> rfl)
    | (refine ⟨?_, ?_⟩ <;> intro i _ <;> rfl)
    | (repeat' apply And.intro) <;> first | (intro i; rfl) | (intro i _; rfl) | (intro i h; exact absurd h (Nat.not_lt_zero i)) | (intro i; exact scpL_rowSet (by rfl) (by rfl)) | (intro i; exact scpL_rowEl (by kernel_rfl) _)
    | (intros; (repeat' apply And.intro) <;> intros <;> first | rfl | (exact absurd (by assumption) (Nat.not_lt_zero _)))
    | omega
    | decide
theorem n_f20_4 (v : V20) : f20_4 v := by
  unfold f20_4
  first
    | (intros; rfl)
    | (intro i; rfl)
    | (intro i _; rfl)
    | (intro _ i; rfl)
    | (intro _ i _; rfl)
    | (refine ⟨?_, ?_⟩ <;> intro i <;> rfl)
    | (refine ⟨?_, ?_, ?_⟩ <;> intro i <;> rfl)
    | (refine ⟨?_, ?_⟩ <;> intro i _ <;> rfl)
    | (repeat' apply And.intro) <;> first | (intro i; rfl) | (intro i _; rfl) | (intro i h; exact absurd h (Nat.not_lt_zero i)) | (intro i; exact scpL_rowSet (by rfl) (by rfl)) | (intro i; exact scpL_rowEl (by kernel_rfl) _)
    | (intros; (repeat' apply And.intro) <;> intros <;> first | rfl | (exact absurd (by assumption) (Nat.not_lt_zero _)))
    | omega
    | decide
noncomputable def ff20 (v : V20) : Tr (Fin th.R) := (Tr.need (f20_0 v) (Tr.need (f20_1 v) (Tr.need (f20_2 v) (Tr.need (f20_3 v) (Tr.need (f20_4 v) (Tr.need (f20_5 v) (Tr.leaf (Prod.mk (SV.bool (f20_6 v)) (Prod.mk (List.cons (HO.ro ((27 : Nat)) ((2 : Nat)) (v.M) (fun j => (List.cons (SV.int (IntKind.u64) (v.F j)) (List.cons (SV.int (IntKind.u64) (v.G j)) []))) (v.ob)) []) [])))))))))
noncomputable def f20 (v : V20) : Tr (Fin th.R) := (Tr.need (f20_2 v) (Tr.need (f20_5 v) (Tr.leaf (Prod.mk (SV.bool (f20_6 v)) (Prod.mk (List.cons (HO.ro ((27 : Nat)) ((2 : Nat)) (v.M) (fun j => (List.cons (SV.int (IntKind.u64) (v.F j)) (List.cons (SV.int (IntKind.u64) (v.G j)) []))) (v.ob)) []) ([]))))))
noncomputable def C20 : CF th.R := fnC d20 ofV20 (f20 )
theorem q20 (v : V20) : (evFn th Try.prog (auto th Try.prog nice36n [] 20) (autoH [(3, L20_0)] [] [] [] : Hints th) 20) (A20 v) (H20 v) = some (ff20 v) := by kernel_rfl
theorem qg20 (v : V20) : ((ff20 v).map (setD [])).get = (f20 v).get := by kernel_rfl
theorem qd20 (v : V20) : allD 1 [] (ff20 v) = true := by kernel_rfl
theorem s20 : Sound Try.prog th 20 (C20 ) := fnC_sound (evFn_sound' (T := th) (P := Try.prog) (tbl := (auto th Try.prog nice36n [] 20)) (auto_sound (nice := nice36n) (us := []) nok36n 20) (H := (autoH [(3, L20_0)] [] [] [] : Hints th)) (k := 20) (fnLoops ok20)) d20 A20 H20 toV20 (by kernel_rfl) (fun v => by kernel_rfl)
  (fun l v h => by
    unfold ofV20 at h
    split at h
    · cases h; rfl
    · cases h)
  [] (fun v => ⟨ff20 v, q20 v, fun h => by
    unfold f20 at h; unfold ff20
    simp only [Tr.ok, n_f20_0, n_f20_1, n_f20_3, n_f20_4, true_and, and_true, forall_const, implies_true] at h ⊢
    try exact h, qg20 v, qd20 v⟩)
theorem qdd20 (v : V20) : (f20 v).get.2.2 = [] := by
  rw [← qg20, Tr.map_get]; rfl
end Go.Sx.S

section
namespace Go.Sx.So
def mts (x y : Sp) : Prop := x.1 < x.2 ∧ y.1 < y.2 ∧ x.1 < y.2 ∧ y.1 < x.2
def inn (x y : Sp) : Prop := x.1 < x.2 ∧ y.1 < y.2 ∧ y.1 ≤ x.1 ∧ x.2 ≤ y.2
instance (x y : Sp) : Decidable (mts x y) := inferInstanceAs (Decidable (_ ∧ _))
instance (x y : Sp) : Decidable (inn x y) := inferInstanceAs (Decidable (_ ∧ _))
def td (x y : Sp) : Prop := mts x y → inn x y ∨ inn y x
instance (x y : Sp) : Decidable (td x y) := inferInstanceAs (Decidable (_ → _))
theorem mts_symm {x y : Sp} (h : mts x y) : mts y x := ⟨h.2.1, h.1, h.2.2.2, h.2.2.1⟩
theorem td_symm {x y : Sp} (h : td x y) : td y x := fun k => (h (mts_symm k)).symm
/-- No two meet. -/
def Ap (l : List Sp) : Prop := (∀ x, x ∈ l → x.1 < x.2) ∧ l.Pairwise fun x y => ¬ mts x y
/-- Each two are tidy. -/
def Td (l : List Sp) : Prop := (∀ x, x ∈ l → x.1 < x.2) ∧ l.Pairwise td
instance (l : List Sp) : Decidable (Ap l) := inferInstanceAs (Decidable (_ ∧ _))
instance (l : List Sp) : Decidable (Td l) := inferInstanceAs (Decidable (_ ∧ _))
theorem Ap.perm {l m : List Sp} (h : l.Perm m) : Ap l ↔ Ap m :=
  and_congr ⟨fun k x hx => k x (h.mem_iff.2 hx), fun k x hx => k x (h.mem_iff.1 hx)⟩ (h.pairwise_iff fun h1 h2 => h1 (mts_symm h2))
theorem Td.perm {l m : List Sp} (h : l.Perm m) : Td l ↔ Td m :=
  and_congr ⟨fun k x hx => k x (h.mem_iff.2 hx), fun k x hx => k x (h.mem_iff.1 hx)⟩ (h.pairwise_iff fun h1 => td_symm h1)
theorem Ap.tidy {l : List Sp} (h : Ap l) : Td l := ⟨h.1, h.2.imp fun h1 h2 => absurd h2 h1⟩
theorem mem_seg {E : Nat → Sp} {n : Nat} {x : Sp} : x ∈ seg E 0 n ↔ ∃ i, i < n ∧ E i = x := by simp [seg]
theorem pw_seg {E : Nat → Sp} {n : Nat} {R : Sp → Sp → Prop} : (seg E 0 n).Pairwise R ↔ ∀ k i, k < i → i < n → R (E k) (E i) := by
  rw [List.pairwise_iff_getElem]
  have e : ∀ i (h : i < (seg E 0 n).length), (seg E 0 n)[i] = E i := fun i h => by simp [seg]
  constructor
  · intro h k i h1 h2
    have := h k i (by rw [seg_length]; omega) (by rw [seg_length]; omega) h1
    rwa [e, e] at this
  · intro h k i h1 h2 h3
    rw [e, e]
    exact h k i h3 (by rw [seg_length] at h2; omega)
theorem Ap_seg {E : Nat → Sp} {n : Nat} : Ap (seg E 0 n) ↔ (∀ i, i < n → (E i).1 < (E i).2) ∧ ∀ k i, k < i → i < n → ¬ mts (E k) (E i) :=
  and_congr ⟨fun h i hi => h _ (mem_seg.2 ⟨i, hi, rfl⟩), fun h x hx => by obtain ⟨i, hi, rfl⟩ := mem_seg.1 hx; exact h i hi⟩ pw_seg
theorem Td_seg {E : Nat → Sp} {n : Nat} : Td (seg E 0 n) ↔ (∀ i, i < n → (E i).1 < (E i).2) ∧ ∀ k i, k < i → i < n → td (E k) (E i) :=
  and_congr ⟨fun h i hi => h _ (mem_seg.2 ⟨i, hi, rfl⟩), fun h x hx => by obtain ⟨i, hi, rfl⟩ := mem_seg.1 hx; exact h i hi⟩ pw_seg
theorem flt_len {F : Nat → Sp} {n : Nat} : (flt F n).length = n ↔ ∀ i, i < n → (F i).1 < (F i).2 := by
  have := List.length_filter_eq_length_iff (p := rgt) (l := seg F 0 n)
  rw [seg_length] at this
  rw [show (flt F n).length = ((seg F 0 n).filter rgt).length from rfl, this]
  exact ⟨fun h i hi => rgt_iff.1 (h _ (mem_seg.2 ⟨i, hi, rfl⟩)), fun h x hx => by obtain ⟨i, hi, rfl⟩ := mem_seg.1 hx; exact rgt_iff.2 (h i hi)⟩
theorem seg_srt (E : Nat → Sp) (L : Nat) : (seg (srt E 0 L) 0 L).Perm (seg E 0 L) := (srt_perm E 0 L).perm
theorem right_srt {E : Nat → Sp} {L : Nat} : (∀ i, i < L → (srt E 0 L i).1 < (srt E 0 L i).2) ↔ ∀ i, i < L → (E i).1 < (E i).2 :=
  ⟨fun h i hi => by
    obtain ⟨j, hj, e⟩ := mem_seg.1 ((seg_srt E L).mem_iff.2 (mem_seg.2 ⟨i, hi, rfl⟩))
    rw [← e]; exact h j hj, fun h i hi => by
    obtain ⟨j, hj, e⟩ := mem_seg.1 ((seg_srt E L).mem_iff.1 (mem_seg.2 ⟨i, hi, rfl⟩))
    rw [← e]; exact h j hj⟩
theorem rs_all {E : Nat → Sp} {L : Nat} (h : (flt (srt E 0 L) L).length = L) : lay (flt (srt E 0 L) L) L (srt E 0 L) = srt E 0 L := by
  rw [flt_all fun j hj => rgt_iff.2 (flt_len.1 h j hj), lay_seg]
theorem adj {S : Nat → Sp} {n : Nat} (hs : SortedIn 0 n S) (hr : ∀ i, i < n → (S i).1 < (S i).2) (ha : ∀ i, 1 ≤ i → i < n → ¬ mts (S (i - 1)) (S i)) : ∀ i k, k < i → i < n → (S k).2 ≤ (S i).1 := by
  intro i
  induction i with
  | zero => intro k h; omega
  | succ i ih =>
    intro k hk hi
    have h1 := ha (i + 1) (by omega) hi
    have h2 := hr i (by omega)
    have h3 := hr (i + 1) hi
    have h4 := hs i (i + 1) (by omega) (by omega) hi
    rw [le_iff] at h4
    have h5 : (S i).2 ≤ (S (i + 1)).1 := by
      rw [Nat.add_sub_cancel] at h1
      have : ¬ (S (i + 1)).1 < (S i).2 := fun q => h1 ⟨h2, h3, by omega, q⟩
      omega
    by_cases hki : k = i
    · subst hki; exact h5
    · have := ih k (by omega) (by omega)
      omega
theorem apart_law {E : Nat → Sp} {L : Nat} {R : Nat → Sp} (hR : R = lay (flt (srt E 0 L) L) L (srt E 0 L)) :
    ((∀ i, 1 ≤ i → i < (flt (srt E 0 L) L).length → ¬ mts (R (i - 1)) (R i)) ∧ (flt (srt E 0 L) L).length = L) ↔ Ap (seg E 0 L) := by
  rw [← Ap.perm (seg_srt E L), Ap_seg]
  constructor
  · rintro ⟨h1, h2⟩
    rw [rs_all h2] at hR
    subst hR
    rw [h2] at h1
    refine ⟨flt_len.1 h2, fun k i hk hi hm => ?_⟩
    have := adj (srt_sorted E 0 L) (flt_len.1 h2) h1 i k hk hi
    have := hm.2.2.2
    omega
  · rintro ⟨h1, h2⟩
    have h3 := flt_len.2 h1
    rw [rs_all h3] at hR
    subst hR
    exact ⟨fun i hi hn => h2 (i - 1) i (by omega) (by omega), h3⟩
theorem lay_get {l : List Sp} {L j : Nat} {E : Nat → Sp} (h : l.length ≤ L) (hj : j < l.length) : lay l L E j = l[j] := by
  unfold lay
  rw [if_pos (by omega)]
  simp [hj]
theorem lay_eq {l : List Sp} {L : Nat} {E : Nat → Sp} (h : l.length ≤ L) : seg (lay l L E) 0 l.length = l := by
  apply List.ext_getElem
  · rw [seg_length]
  · intro j h1 h2
    simp only [seg, List.getElem_map, List.getElem_range, Nat.zero_add]
    exact lay_get h h2
theorem rs_sorted {E R : Nat → Sp} {L n : Nat} (hR : R = lay (flt (srt E 0 L) L) L (srt E 0 L)) (hn : n = (flt (srt E 0 L) L).length) : SortedIn 0 n R := by
  subst hR hn
  apply of_pairwise
  rw [Nat.sub_zero, lay_eq (flt_length _ _)]
  have := seg_pairwise (srt_sorted E 0 L)
  rw [Nat.sub_zero] at this
  exact this.filter _
theorem rs_seg {E R : Nat → Sp} {L n : Nat} (hR : R = lay (flt (srt E 0 L) L) L (srt E 0 L)) (hn : n = (flt (srt E 0 L) L).length) : seg R 0 n = flt (srt E 0 L) L := by
  subst hR hn
  exact lay_eq (flt_length _ _)
theorem rs_right {E R : Nat → Sp} {L n : Nat} (hR : R = lay (flt (srt E 0 L) L) L (srt E 0 L)) (hn : n = (flt (srt E 0 L) L).length) (i : Nat) (hi : i < n) : (R i).1 < (R i).2 := by
  have : R i ∈ flt (srt E 0 L) L := by rw [← rs_seg hR hn]; exact mem_seg.2 ⟨i, hi, rfl⟩
  exact rgt_iff.1 (List.mem_filter.1 this).2
theorem tidy_law {E : Nat → Sp} {L : Nat} {R : Nat → Sp} (hR : R = lay (flt (srt E 0 L) L) L (srt E 0 L)) :
    (Td (seg R 0 (flt (srt E 0 L) L).length) ∧ (flt (srt E 0 L) L).length = L) ↔ Td (seg E 0 L) := by
  rw [← Td.perm (seg_srt E L)]
  constructor
  · rintro ⟨h1, h2⟩
    rw [rs_all h2] at hR
    rw [h2, hR] at h1
    exact h1
  · intro h
    have h3 := flt_len.2 (Td_seg.1 h).1
    rw [rs_all h3] at hR
    rw [h3, hR]
    exact ⟨h, rfl⟩
/-- The stack of the open ones. -/
structure TI (n : Nat) (R : Nat → Sp) (i m : Nat) (St : Nat → Sp) : Prop where
  chain : ∀ k' k, k' < k → k < m → inn (St k) (St k')
  all : ∀ j, j < i → (∃ k, k < m ∧ St k = R j) ∨ ∀ x, i ≤ x → x < n → (R j).2 ≤ (R x).1
  own : ∀ k, k < m → ∃ j, j < i ∧ St k = R j
  done : ∀ k j, k < j → j < i → td (R k) (R j)
theorem TI.zero {n : Nat} {R St : Nat → Sp} : TI n R 0 0 St := ⟨fun _ _ _ h => by omega, fun _ h => by omega, fun _ h => by omega, fun _ _ _ h => by omega⟩
theorem inn_trans {x y z : Sp} (h : inn x y) (k : inn y z) : inn x z := ⟨h.1, k.2.1, Int.le_trans k.2.2.1 h.2.2.1, Int.le_trans h.2.2.2 k.2.2.2⟩
theorem TI.push {n : Nat} {R : Nat → Sp} {i m : Nat} {St : Nat → Sp} (h : TI n R i m St) (hs : SortedIn 0 n R) (hi : i < n) {m' : Nat} (hm : m' ≤ m)
    (hp : ∀ k, m' ≤ k → k < m → (St k).2 ≤ (R i).1) (ht : m' = 0 ∨ inn (R i) (St (m' - 1))) {St' : Nat → Sp} (e1 : ∀ k, k < m' → St' k = St k) (e2 : St' m' = R i) : TI n R (i + 1) (m' + 1) St' := by
  have inS : ∀ k, k < m' → inn (R i) (St k) := fun k hk => by
    rcases ht with h0 | h0
    · omega
    · by_cases hk' : k = m' - 1
      · subst hk'; exact h0
      · exact inn_trans h0 (h.chain k (m' - 1) (by omega) (by omega))
  have far : ∀ j, j < i → (∃ k, k < m' ∧ St k = R j) ∨ (R j).2 ≤ (R i).1 := fun j hj => by
    rcases h.all j hj with ⟨k, hk, e⟩ | h0
    · by_cases hk' : k < m'
      · exact .inl ⟨k, hk', e⟩
      · exact .inr (by rw [← e]; exact hp k (by omega) hk)
    · exact .inr (h0 i (Nat.le_refl _) hi)
  refine ⟨fun k' k h1 h2 => ?_, fun j hj => ?_, fun k hk => ?_, fun k j h1 h2 => ?_⟩
  · by_cases hk : k = m'
    · subst hk; rw [e2, e1 k' h1]; exact inS k' h1
    · rw [e1 k (by omega), e1 k' (by omega)]; exact h.chain k' k h1 (by omega)
  · by_cases hj' : j = i
    · subst hj'; exact .inl ⟨m', by omega, e2⟩
    · rcases far j (by omega) with ⟨k, hk, e⟩ | h0
      · exact .inl ⟨k, by omega, by rw [e1 k hk]; exact e⟩
      · refine .inr fun x h1 h2 => ?_
        have := hs i x (Nat.zero_le _) (by omega) h2
        rw [le_iff] at this
        omega
  · by_cases hk' : k = m'
    · subst hk'; exact ⟨i, by omega, e2⟩
    · obtain ⟨j, hj, e⟩ := h.own k (by omega)
      exact ⟨j, by omega, by rw [e1 k (by omega)]; exact e⟩
  · by_cases hj : j = i
    · subst hj
      rcases far k h1 with ⟨k', hk', e⟩ | h0
      · exact fun _ => .inr (by rw [← e]; exact inS k' hk')
      · intro hm
        have := hm.2.2.2
        omega
    · exact h.done k j h1 (by omega)
theorem TI.fail {n : Nat} {R : Nat → Sp} {i m : Nat} {St : Nat → Sp} (h : TI n R i m St) (hs : SortedIn 0 n R) (hr : ∀ i, i < n → (R i).1 < (R i).2) (hi : i < n) {m' : Nat} (hm : m' ≤ m) (h0 : 0 < m')
    (ht : (R i).1 < (St (m' - 1)).2) (hn : ¬ inn (R i) (St (m' - 1))) : ¬ Td (seg R 0 n) := by
  obtain ⟨j, hj, e⟩ := h.own (m' - 1) (by omega)
  rw [e] at ht hn
  intro hT
  have h1 := (Td_seg.1 hT).2 j i hj hi
  have h2 := hs j i (Nat.zero_le _) (by omega) hi
  rw [le_iff] at h2
  have h3 := hr i hi
  have h4 := hr j (by omega)
  rcases h1 ⟨h4, h3, by omega, ht⟩ with q | q
  · exact hn ⟨h3, h4, by obtain ⟨_, _, q1, q2⟩ := q; omega, by obtain ⟨_, _, q1, q2⟩ := q; omega⟩
  · exact hn q
theorem TI.final {n : Nat} {R : Nat → Sp} {m : Nat} {St : Nat → Sp} (h : TI n R n m St) (hr : ∀ i, i < n → (R i).1 < (R i).2) : Td (seg R 0 n) := Td_seg.2 ⟨hr, h.done⟩
end Go.Sx.So

end

namespace Go.Sx.S
open Go Go.Sx Go.Proofs Go.RowKit
set_option maxRecDepth 100000
open So
def pre20 (v : V20) : Prop := v.L ≤ v.M ∧ v.L ≤ 30000000000
theorem meets_dec (x y : Sp) : f13_0 x.1 x.2 y.1 y.2 = decide (mts x y) := by
  rw [Bool.eq_iff_iff, decide_eq_true_iff]
  simp only [f13_0, f11_0, cnd_and, Bool.and_eq_true, decide_eq_true_eq]
  exact ⟨fun ⟨⟨⟨a, b⟩, c⟩, d⟩ => ⟨a, b, c, d⟩, fun ⟨a, b, c, d⟩ => ⟨⟨⟨a, b⟩, c⟩, d⟩⟩
theorem l20 {L M n : Nat} {F G : Nat → Int} {ob : Obj} {R : Nat → Sp} (hn : n ≤ L) (hL : L ≤ 30000000000) :
    LT (r20_0 (P20_0.mk L false n M ob F G L (fun j => (R j).fst) fun j => (R j).snd)) (S20_0.mk 1) ∧
      (fun s : S20_0 => ((n : Int) ≤ s.x4 ∧ ∀ i, 1 ≤ i → i < n → ¬ mts (R (i - 1)) (R i)) ∨ (s.x4 < (n : Int) ∧ ∃ i, 1 ≤ i ∧ i < n ∧ mts (R (i - 1)) (R i)))
        (lastS (r20_0 (P20_0.mk L false n M ob F G L (fun j => (R j).fst) fun j => (R j).snd)) (S20_0.mk 1)) := by
  refine LT.post (fun s : S20_0 => ∃ i : Nat, s.x4 = i ∧ 1 ≤ i ∧ i ≤ n + 1 ∧ ∀ j, 1 ≤ j → j < i → j < n → ¬ mts (R (j - 1)) (R j))
    (fun s : S20_0 => ((n : Int) ≤ s.x4 ∧ ∀ i, 1 ≤ i → i < n → ¬ mts (R (i - 1)) (R i)) ∨ (s.x4 < (n : Int) ∧ ∃ i, 1 ≤ i ∧ i < n ∧ mts (R (i - 1)) (R i))) (fun s : S20_0 => (n - s.x4).toNat) ?_ ?_
  rotate_left
  · exact ⟨1, rfl, Nat.le_refl _, by omega, fun j h1 h2 => by omega⟩
  rintro ⟨x⟩ ⟨i, g1, g2, g3, g4⟩
  simp only at g1
  subst g1
  have w1 : IntKind.i64.wrap ((i : Int) - 1) = ((i - 1 : Nat) : Int) := by rw [wi (by omega) (by omega)]; omega
  have w2 : IntKind.i64.wrap ((i : Int) + 1) = ((i + 1 : Nat) : Int) := by rw [wi (by omega) (by omega)]; omega
  simp only [r20_0, e20_0_0, e20_0_2, e20_0_3, e20_0_5, Tr.ok, Tr.get, w1, w2, Nat.zero_add, Int.toNat_natCast, meets_dec, cndB, decide_eq_true_eq]
  by_cases hc : i < n
  · have hd : (if (i : Int) < (n : Int) then false else true) = false := if_pos (by omega)
    rw [hd]
    refine ⟨⟨(fun e => by cases e), fun _ => ⟨⟨fun _ => ⟨by omega, by omega⟩, fun _ => by omega, fun _ => ⟨by omega, by omega⟩, fun _ => by omega⟩, fun _ => trivial, fun _ => trivial⟩⟩, ?_⟩
    by_cases hm : mts (R (i - 1)) (R i)
    · rw [decide_eq_true hm]
      exact .inl ⟨⟨_, _, _, rfl⟩, .inr ⟨by omega, i, g2, hc, hm⟩⟩
    · rw [decide_eq_false hm]
      refine .inr ⟨_, rfl, ⟨i + 1, rfl, by omega, by omega, fun j h1 h2 h3 => ?_⟩, by simp only; omega⟩
      by_cases hj : j = i
      · subst hj; exact hm
      · exact g4 j h1 (by omega) h3
  · have hd : (if (i : Int) < (n : Int) then false else true) = true := if_neg (by omega)
    rw [hd]
    exact ⟨⟨fun _ => trivial, (fun e => by cases e)⟩, .inl ⟨⟨_, _, _, rfl⟩,   .inl ⟨by omega, fun j h1 h2 => g4 j h1 (by omega) h2⟩⟩⟩
theorem n20 (v : V20) (h : pre20 v) : (f20 v).ok ∧ (f20 v).get.1 = .bool (decide (Ap (seg (sp v.F v.G) 0 v.L))) ∧ HOws (f20 v).get.2.1 [HO.ro 27 2 v.M (fun j => [SV.int .u64 (v.F j), SV.int .u64 (v.G j)]) v.ob] := by
  obtain ⟨L, M, ob, F, G⟩ := v
  obtain ⟨h1, h2⟩ : L ≤ M ∧ L ≤ 30000000000 := h
  have hn : (RS (sp F G) L).length ≤ L := flt_length _ _
  obtain ⟨k1, k2⟩ := l20 (M := M) (F := F) (G := G) (ob := ob) (R := RSr (sp F G) L) hn h2
  have k3 := apart_law (E := sp F G) (L := L) (R := RSr (sp F G) L) rfl
  refine ⟨⟨⟨h1, h2⟩, k1, trivial⟩, ?_, .refl _⟩
  show SV.bool (f20_6 _) = _
  congr 1
  rw [Bool.eq_iff_iff, decide_eq_true_iff, ← k3]
  have key : ∀ s : S20_0, ((((RS (sp F G) L).length : Int) ≤ s.x4 ∧ ∀ i, 1 ≤ i → i < (RS (sp F G) L).length → ¬ mts (RSr (sp F G) L (i - 1)) (RSr (sp F G) L i)) ∨ (s.x4 < ((RS (sp F G) L).length : Int) ∧ ∃ i, 1 ≤ i ∧ i < (RS (sp F G) L).length ∧ mts (RSr (sp F G) L (i - 1)) (RSr (sp F G) L i))) →
      ((cnd (cnd (cnd (decide (s.x4 < ((RS (sp F G) L).length : Int))) false true) false true) false (((RS (sp F G) L).length : Int) == (L : Int)) = true) ↔
        ((∀ i, 1 ≤ i → i < (RS (sp F G) L).length → ¬ mts (RSr (sp F G) L (i - 1)) (RSr (sp F G) L i)) ∧ (RS (sp F G) L).length = L)) := by
    intro s k2
    rcases k2 with ⟨a, b⟩ | ⟨a, b⟩
    · rw [decide_eq_false (by omega)]
      show (((RS (sp F G) L).length : Int) == (L : Int)) = true ↔ _
      rw [beq_iff_eq]
      exact ⟨fun e => ⟨b, by omega⟩, fun e => by omega⟩
    · rw [decide_eq_true (by omega)]
      show false = true ↔ _
      obtain ⟨i, i1, i2, i3⟩ := b
      exact ⟨(fun e => by cases e), fun e => absurd i3 (e.1 i i1 i2)⟩
  exact key _ k2
noncomputable def f20n (v : V20) : Tr (Fin th.R) := .need (pre20 v) (.leaf (.bool (decide (So.Ap (So.seg (sp v.F v.G) 0 v.L))), [.ro 27 2 v.M (fun j => [.int .u64 (v.F j), .int .u64 (v.G j)]) v.ob], []))
theorem s20n : Sound Try.prog th 20 (fnC d20 ofV20 f20n) := fnC_refine s20 fun v h => by
  obtain ⟨hp, _⟩ := h
  obtain ⟨a, b, c⟩ := n20 v hp
  exact ⟨a, b.symm, (qdd20 v).symm, c, by show 1 ≤ 1; decide⟩
structure V20w where
  L : Nat
  M : Nat
  F : Nat → Int
  G : Nat → Int
def inj20 (v : V20w) (o : Obj) : V20 := ⟨v.L, v.M, o, v.F, v.G⟩
def A20w (v : V20w) : List SV := [.slc 0 2 0 v.L]
def H20w (v : V20w) : List (HO th.R) := [.row 27 2 v.M (fun j => [.int .u64 (v.F j), .int .u64 (v.G j)])]
def toV20w (v : V20w) : List (Vl th.R) := [.n v.L, .n v.M, .c v.F, .c v.G]
def ofV20w : List (Vl th.R) → Option V20w
  | [.n L, .n M, .c F, .c G] => some ⟨L, M, F, G⟩
  | _ => none
def d20w : Ft := ⟨[.slc0 0 2], [.rowc 27 [.int .u64, .int .u64]]⟩
noncomputable def f20w (v : V20w) : Tr (Fin th.R) := .need (pre20 (inj20 v (.cells #[] 0))) (.leaf (.bool (decide (So.Ap (So.seg (sp (inj20 v (.cells #[] 0)).F (inj20 v (.cells #[] 0)).G) 0 (inj20 v (.cells #[] 0)).L))), [.row 27 2 v.M (fun j => [.int .u64 (v.F j), .int .u64 (v.G j)])], []))
theorem cw20 (v : V20w) (o : Obj) : fnC d20 ofV20 f20n (A20 (inj20 v o)) (H20 (inj20 v o)) = some (.need (∀ i, i < v.M → (fun j => [.int .u64 (v.F j), .int .u64 (v.G j)] : Nat → List SV) i = elC (fun j => [.int .u64 (v.F j), .int .u64 (v.G j)] : Nat → List SV) 0 [.int .u64, .int .u64] i) ((f20n (inj20 v o)).map (fixF (H20 (inj20 v o))))) := by kernel_rfl
theorem s20w : Sound Try.prog th 20 (fnC d20w ofV20w f20w) := by
  refine fnC_direct (T := th) d20w A20w H20w toV20w (by kernel_rfl) (fun v => by kernel_rfl) ?_ ?_ (fun v _ => Nat.le_add_left _ _) (fun v _ n hn _ => ?_)
  · intro l v h
    unfold ofV20w at h
    split at h
    · cases h; rfl
    · cases h
  · intro v hok K w0 ρ w vargs I hr
    obtain ⟨hp, _⟩ := hok
    exact ro_row (tl := []) (val := .bool (decide (So.Ap (So.seg (sp (inj20 v (.cells #[] 0)).F (inj20 v (.cells #[] 0)).G) 0 (inj20 v (.cells #[] 0)).L)))) (fun o K w0 ρ w vargs I hr => fnC_out s20n (cw20 v o) ⟨fun i _ => rfl, hp, trivial⟩ I hr) I hr
  · have hn : n < 1 := hn
    have : n = 0 := by omega
    subst this; rfl
noncomputable def nice20n : List (Nat × CF th.R) := (20, lift (orC (fnC d20 ofV20 f20n) (fnC d20w ofV20w f20w))) :: nice36n
theorem nok20n : NiceOk Try.prog th nice20n := ⟨lift_sound (orC_sound s20n s20w), nok36n⟩
end Go.Sx.S

namespace Go.Sx.S
open Go Go.Sx Go.Proofs Go.RowKit
set_option maxRecDepth 100000
open So
def pre21 (v : V21) : Prop := v.L ≤ v.M ∧ v.L ≤ 30000000000
theorem in_dec (x y : Sp) : f15_0 x.1 x.2 y.1 y.2 = decide (inn x y) := by
  rw [Bool.eq_iff_iff, decide_eq_true_iff]
  simp only [f15_0, f11_0, cnd_and, Bool.and_eq_true, decide_eq_true_eq, inn]
  all_goals exact ⟨fun ⟨⟨⟨a, b⟩, c⟩, d⟩ => ⟨a, b, c, d⟩, fun ⟨a, b, c, d⟩ => ⟨⟨⟨a, b⟩, c⟩, d⟩⟩
theorem l21_1 (p : P21_1) (m : Nat) (hN : m ≤ p.N2) (hm : m ≤ 30000000000) :
    LT (r21_1 p) (S21_1.mk m) ∧ (fun s : S21_1 => s.n4 ≤ m ∧ (∀ k, s.n4 ≤ k → k < m → p.F2_1 k ≤ p.xh3_0) ∧ (s.n4 = 0 ∨ p.xh3_0 < p.F2_1 (s.n4 - 1))) (lastS (r21_1 p) (S21_1.mk m)) := by
  refine LT.post (fun s : S21_1 => s.n4 ≤ m ∧ ∀ k, s.n4 ≤ k → k < m → p.F2_1 k ≤ p.xh3_0)
    (fun s : S21_1 => s.n4 ≤ m ∧ (∀ k, s.n4 ≤ k → k < m → p.F2_1 k ≤ p.xh3_0) ∧ (s.n4 = 0 ∨ p.xh3_0 < p.F2_1 (s.n4 - 1))) (fun s : S21_1 => s.n4) ?_ ?_
  rotate_left
  · exact ⟨Nat.le_refl _, fun k h1 h2 => absurd h2 (Nat.not_lt.2 h1)⟩
  rintro ⟨k⟩ ⟨g1, g2⟩
  simp only at g1 g2
  simp only [r21_1, e21_1_0, e21_1_1, e21_1_3, e21_1_5, Tr.ok, Tr.get, Nat.zero_add]
  by_cases hk : 0 < k
  · have w1 : IntKind.i64.wrap ((k : Int) - 1) = ((k - 1 : Nat) : Int) := by rw [wi (by omega) (by omega)]; omega
    rw [decide_eq_true (show (k : Int) > 0 by omega), w1]
    simp only [Int.toNat_natCast]
    by_cases hc : p.F2_1 (k - 1) ≤ p.xh3_0
    · rw [decide_eq_true hc]
      refine ⟨⟨⟨fun _ => ⟨by omega, by omega⟩, fun _ => by omega⟩, (fun e => by cases e), fun _ => ⟨⟨by omega, by omega⟩, trivial⟩⟩, .inr ⟨_, rfl, ⟨show k - 1 ≤ m by omega, fun j (h1 : k - 1 ≤ j) h2 => ?_⟩, show k - 1 < k by omega⟩⟩
      by_cases hj : j = k - 1
      · subst hj; exact hc
      · exact g2 j (by omega) h2
    · rw [decide_eq_false hc]
      exact ⟨⟨⟨fun _ => ⟨by omega, by omega⟩, fun _ => by omega⟩, fun _ => trivial, (fun e => by cases e)⟩, .inl ⟨⟨_, _, _, rfl⟩, g1, g2, .inr (by omega)⟩⟩
  · rw [decide_eq_false (show ¬ (k : Int) > 0 by omega)]
    exact ⟨⟨⟨(fun e => by cases e), (fun e => by cases e)⟩, fun _ => trivial, (fun e => by cases e)⟩, .inl ⟨⟨_, _, _, rfl⟩, g1, g2, .inl (by omega)⟩⟩
theorem l21 {L M n : Nat} {F G F' G' : Nat → Int} {ob : Obj} {R : Nat → Sp} (hn : n ≤ L) (hL : L ≤ 30000000000) (hs : SortedIn 0 n R) (hr : ∀ i, i < n → (R i).1 < (R i).2) :
    LT (r21_0 (P21_0.mk L n n (n : Int) M ob F G L (fun j => (R j).fst) fun j => (R j).snd)) (S21_0.mk 0 0 0 F' G') ∧
      (fun s : S21_0 => ((n : Int) ≤ s.x11 ∧ Td (seg R 0 n)) ∨ (s.x11 < (n : Int) ∧ ¬ Td (seg R 0 n)))
        (lastS (r21_0 (P21_0.mk L n n (n : Int) M ob F G L (fun j => (R j).fst) fun j => (R j).snd)) (S21_0.mk 0 0 0 F' G')) := by
  refine LT.post (fun s : S21_0 => ∃ i : Nat, s.x11 = i ∧ i ≤ n ∧ s.n4 ≤ i ∧ s.n4 ≤ s.N2 ∧ TI n R i s.n4 (sp s.F2_0 s.F2_1))
    (fun s : S21_0 => ((n : Int) ≤ s.x11 ∧ Td (seg R 0 n)) ∨ (s.x11 < (n : Int) ∧ ¬ Td (seg R 0 n))) (fun s : S21_0 => (n - s.x11).toNat) ?_ ?_
  rotate_left
  · exact ⟨0, rfl, Nat.zero_le _, Nat.le_refl _, Nat.le_refl _, TI.zero⟩
  rintro ⟨m, x, N2, A, B⟩ ⟨i, g1, g2, g3, g4, g5⟩
  simp only at g1 g3 g4 g5
  subst g1
  have w2 : IntKind.i64.wrap ((i : Int) + 1) = ((i + 1 : Nat) : Int) := by rw [wi (by omega) (by omega)]; omega
  obtain ⟨k1, k2⟩ := l21_1 (P21_1.mk L n n (n : Int) (i : Int) M ob F G L (fun j => (R j).fst) (fun j => (R j).snd) N2 A B (R i).1 (R i).2) m g4 (by omega)
  simp only [r21_0, e21_0_0, e21_0_2, e21_0_3, e21_0_5, e21_0_6, e21_0_7, e21_0_8, e21_0_10, e21_0_11, e21_0_12, e21_0_13, Tr.ok, Tr.get, w2, Nat.zero_add, Int.toNat_natCast]
  by_cases hc : i < n
  · have hd : cnd (decide ((i : Int) < (n : Int))) false true = false := by rw [decide_eq_true (by omega)]; rfl
    obtain ⟨m', hz⟩ : ∃ m', lastS (r21_1 (P21_1.mk L n n (n : Int) (i : Int) M ob F G L (fun j => (R j).fst) (fun j => (R j).snd) N2 A B (R i).1 (R i).2)) (S21_1.mk m) = S21_1.mk m' := ⟨_, rfl⟩
    rw [hz] at k2
    obtain ⟨q1, q2, q3⟩ := k2
    simp only at q1 q2 q3
    simp only [hz]
    rw [hd]
    have push : ∀ hh : m' = 0 ∨ inn (R i) (sp A B (m' - 1)), TI n R (i + 1) (m' + 1) (sp (fun j => cnd (j.blt m') (A j) (R i).fst) fun j => cnd (j.blt m') (B j) (R i).snd) := fun hh =>
      g5.push hs hc q1 q2 hh (fun k hk => by simp [sp, cndB, bltT, hk]) (by simp [sp, cndB, bltT])
    by_cases h0 : 0 < m'
    · have w1 : IntKind.i64.wrap ((m' : Int) - 1) = ((m' - 1 : Nat) : Int) := by rw [wi (by omega) (by omega)]; omega
      have dec : f15_0 (R i).1 (R i).2 (A (m' - 1)) (B (m' - 1)) = decide (inn (R i) (sp A B (m' - 1))) := in_dec (R i) (sp A B (m' - 1))
      rw [decide_eq_true (show (m' : Int) > 0 by omega), w1]
      simp only [Int.toNat_natCast, dec]
      by_cases hm : inn (R i) (sp A B (m' - 1))
      · rw [decide_eq_true hm]
        refine ⟨⟨(fun e => by cases e), fun _ => ⟨⟨by omega, by omega⟩, by omega, k1, ⟨fun _ => ⟨by omega, by omega⟩, fun _ => by omega⟩, (fun e => by cases e), fun _ => ⟨⟨by first | trivial | omega, by first | trivial | omega, by first | trivial | omega, by first | trivial | omega, by first | trivial | omega⟩, trivial⟩⟩⟩, ?_⟩
        exact .inr ⟨_, rfl, ⟨i + 1, rfl, by omega, by simp only; omega, Nat.le_refl _, push (.inr hm)⟩, by simp only [w2]; omega⟩
      · rw [decide_eq_false hm]
        refine ⟨⟨(fun e => by cases e), fun _ => ⟨⟨by omega, by omega⟩, by omega, k1, ⟨fun _ => ⟨by omega, by omega⟩, fun _ => by omega⟩, fun _ => trivial, (fun e => by cases e)⟩⟩, ?_⟩
        exact .inl ⟨⟨_, _, _, rfl⟩, .inr ⟨by omega, g5.fail hs hr hc q1 h0 (by rcases q3 with q3 | q3; omega; exact q3) hm⟩⟩
    · have : m' = 0 := by omega
      subst this
      rw [decide_eq_false (show ¬ ((0:Nat) : Int) > 0 by omega)]
      refine ⟨⟨(fun e => by cases e), fun _ => ⟨⟨by omega, by omega⟩, by omega, k1, ⟨(fun e => by cases e), (fun e => by cases e)⟩, (fun e => by cases e), fun _ => ⟨⟨by first | trivial | omega, by first | trivial | omega, by first | trivial | omega, by first | trivial | omega, by first | trivial | omega⟩, trivial⟩⟩⟩, ?_⟩
      exact .inr ⟨_, rfl, ⟨i + 1, rfl, by omega, by simp only; omega, Nat.le_refl _, push (.inl rfl)⟩, by simp only [w2]; omega⟩
  · have hd : cnd (decide ((i : Int) < (n : Int))) false true = true := by rw [decide_eq_false (by omega)]; rfl
    have : i = n := by omega
    subst this
    rw [hd]
    exact ⟨⟨fun _ => trivial, (fun e => by cases e)⟩, .inl ⟨⟨_, _, _, rfl⟩, .inl ⟨by omega, g5.final hr⟩⟩⟩
theorem n21 (v : V21) (h : pre21 v) : (f21 v).ok ∧ (f21 v).get.1 = .bool (decide (Td (seg (sp v.F v.G) 0 v.L))) ∧ HOws (f21 v).get.2.1 [HO.ro 27 2 v.M (fun j => [SV.int .u64 (v.F j), SV.int .u64 (v.G j)]) v.ob] := by
  obtain ⟨L, M, ob, F, G⟩ := v
  obtain ⟨h1, h2⟩ : L ≤ M ∧ L ≤ 30000000000 := h
  have hn : (RS (sp F G) L).length ≤ L := flt_length _ _
  obtain ⟨k1, k2⟩ := l21 (M := M) (F := F) (G := G) (F' := colI (fun j => []) 0) (G' := colI (fun j => []) 1) (ob := ob) (R := RSr (sp F G) L) hn h2 (rs_sorted rfl rfl) (rs_right rfl rfl)
  have k3 := tidy_law (E := sp F G) (L := L) (R := RSr (sp F G) L) rfl
  refine ⟨⟨⟨h1, h2⟩, k1, trivial⟩, ?_, .refl _⟩
  show SV.bool (f21_6 _) = _
  congr 1
  rw [Bool.eq_iff_iff, decide_eq_true_iff, ← k3]
  have key : ∀ s : S21_0, ((((RS (sp F G) L).length : Int) ≤ s.x11 ∧ Td (seg (RSr (sp F G) L) 0 (RS (sp F G) L).length)) ∨ (s.x11 < ((RS (sp F G) L).length : Int) ∧ ¬ Td (seg (RSr (sp F G) L) 0 (RS (sp F G) L).length))) →
      ((cnd (cnd (cnd (decide (s.x11 < ((RS (sp F G) L).length : Int))) false true) false true) false (((RS (sp F G) L).length : Int) == (L : Int)) = true) ↔
        (Td (seg (RSr (sp F G) L) 0 (RS (sp F G) L).length) ∧ (RS (sp F G) L).length = L)) := by
    intro s k2
    rcases k2 with ⟨a, b⟩ | ⟨a, b⟩
    · rw [decide_eq_false (by omega)]
      show (((RS (sp F G) L).length : Int) == (L : Int)) = true ↔ _
      rw [beq_iff_eq]
      exact ⟨fun e => ⟨b, by omega⟩, fun e => by omega⟩
    · rw [decide_eq_true (by omega)]
      show false = true ↔ _
      exact ⟨(fun e => by cases e), fun e => absurd e.1 b⟩
  exact key _ k2
noncomputable def f21n (v : V21) : Tr (Fin th.R) := .need (pre21 v) (.leaf (.bool (decide (So.Td (So.seg (sp v.F v.G) 0 v.L))), [.ro 27 2 v.M (fun j => [.int .u64 (v.F j), .int .u64 (v.G j)]) v.ob], []))
theorem s21n : Sound Try.prog th 21 (fnC d21 ofV21 f21n) := fnC_refine s21 fun v h => by
  obtain ⟨hp, _⟩ := h
  obtain ⟨a, b, c⟩ := n21 v hp
  exact ⟨a, b.symm, (qdd21 v).symm, c, by show 1 ≤ 1; decide⟩
structure V21w where
  L : Nat
  M : Nat
  F : Nat → Int
  G : Nat → Int
def inj21 (v : V21w) (o : Obj) : V21 := ⟨v.L, v.M, o, v.F, v.G⟩
def A21w (v : V21w) : List SV := [.slc 0 2 0 v.L]
def H21w (v : V21w) : List (HO th.R) := [.row 27 2 v.M (fun j => [.int .u64 (v.F j), .int .u64 (v.G j)])]
def toV21w (v : V21w) : List (Vl th.R) := [.n v.L, .n v.M, .c v.F, .c v.G]
def ofV21w : List (Vl th.R) → Option V21w
  | [.n L, .n M, .c F, .c G] => some ⟨L, M, F, G⟩
  | _ => none
def d21w : Ft := ⟨[.slc0 0 2], [.rowc 27 [.int .u64, .int .u64]]⟩
noncomputable def f21w (v : V21w) : Tr (Fin th.R) := .need (pre21 (inj21 v (.cells #[] 0))) (.leaf (.bool (decide (So.Td (So.seg (sp (inj21 v (.cells #[] 0)).F (inj21 v (.cells #[] 0)).G) 0 (inj21 v (.cells #[] 0)).L))), [.row 27 2 v.M (fun j => [.int .u64 (v.F j), .int .u64 (v.G j)])], []))
theorem cw21 (v : V21w) (o : Obj) : fnC d21 ofV21 f21n (A21 (inj21 v o)) (H21 (inj21 v o)) = some (.need (∀ i, i < v.M → (fun j => [.int .u64 (v.F j), .int .u64 (v.G j)] : Nat → List SV) i = elC (fun j => [.int .u64 (v.F j), .int .u64 (v.G j)] : Nat → List SV) 0 [.int .u64, .int .u64] i) ((f21n (inj21 v o)).map (fixF (H21 (inj21 v o))))) := by kernel_rfl
theorem s21w : Sound Try.prog th 21 (fnC d21w ofV21w f21w) := by
  refine fnC_direct (T := th) d21w A21w H21w toV21w (by kernel_rfl) (fun v => by kernel_rfl) ?_ ?_ (fun v _ => Nat.le_add_left _ _) (fun v _ n hn _ => ?_)
  · intro l v h
    unfold ofV21w at h
    split at h
    · cases h; rfl
    · cases h
  · intro v hok K w0 ρ w vargs I hr
    obtain ⟨hp, _⟩ := hok
    exact ro_row (tl := []) (val := .bool (decide (So.Td (So.seg (sp (inj21 v (.cells #[] 0)).F (inj21 v (.cells #[] 0)).G) 0 (inj21 v (.cells #[] 0)).L)))) (fun o K w0 ρ w vargs I hr => fnC_out s21n (cw21 v o) ⟨fun i _ => rfl, hp, trivial⟩ I hr) I hr
  · have hn : n < 1 := hn
    have : n = 0 := by omega
    subst this; rfl
noncomputable def nice21n : List (Nat × CF th.R) := (21, lift (orC (fnC d21 ofV21 f21n) (fnC d21w ofV21w f21w))) :: nice20n
theorem nok21n : NiceOk Try.prog th nice21n := ⟨lift_sound (orC_sound s21n s21w), nok20n⟩
end Go.Sx.S

namespace Go.Sx.S
open Go Go.Sx Go.Proofs Go.RowKit
set_option maxRecDepth 100000
open So
def pre19 (v : V19) : Prop := v.L ≤ v.M ∧ v.L ≤ 30000000000
theorem l19 {L M : Nat} {F G F' G' : Nat → Int} {ob : Obj} (hM : L ≤ M) (hL : L ≤ 30000000000) :
    LT (r19_0 (P19_0.mk L (L : Int) M ob F G)) (S19_0.mk 0 0 0 F' G') ∧
      (fun s : S19_0 => s.n3 = L ∧ s.N1 = L ∧ ∀ j, j < L → s.F1_0 j = F j ∧ s.F1_1 j = G j) (lastS (r19_0 (P19_0.mk L (L : Int) M ob F G)) (S19_0.mk 0 0 0 F' G')) := by
  refine LT.post (fun s : S19_0 => ∃ i : Nat, s.x8 = i ∧ i ≤ L ∧ s.n3 = i ∧ s.N1 = i ∧ ∀ j, j < i → s.F1_0 j = F j ∧ s.F1_1 j = G j)
    (fun s : S19_0 => s.n3 = L ∧ s.N1 = L ∧ ∀ j, j < L → s.F1_0 j = F j ∧ s.F1_1 j = G j) (fun s : S19_0 => (L - s.x8).toNat) ?_ ?_
  rotate_left
  · exact ⟨0, rfl, Nat.zero_le _, rfl, rfl, fun j h => absurd h (Nat.not_lt_zero _)⟩
  rintro ⟨m, x, N1, A, B⟩ ⟨i, g1, g2, g3, g4, g5⟩
  simp only at g1 g3 g4 g5
  subst g1 g3 g4
  have w2 : IntKind.i64.wrap ((N1 : Int) + 1) = ((N1 + 1 : Nat) : Int) := by rw [wi (by omega) (by omega)]; omega
  simp only [r19_0, e19_0_0, e19_0_2, e19_0_3, e19_0_4, e19_0_6, e19_0_7, e19_0_8, e19_0_9, Tr.ok, Tr.get, w2, Nat.zero_add, Int.toNat_natCast]
  by_cases hc : N1 < L
  · have hd : cnd (decide ((N1 : Int) < (L : Int))) false true = false := by rw [decide_eq_true (by omega)]; rfl
    rw [hd]
    refine ⟨⟨(fun e => by cases e), fun _ => ?_⟩, .inr ⟨_, rfl, ⟨N1 + 1, rfl, by omega, rfl, rfl, fun j hj => ?_⟩, by simp only [w2]; omega⟩⟩
    · (repeat' apply And.intro) <;> first | trivial | omega
    · simp only [cndB, bltT]
      by_cases h : j < N1
      · rw [if_pos h, if_pos h]; exact g5 j h
      · have : j = N1 := by omega
        subst this
        rw [if_neg h, if_neg h]; exact ⟨rfl, rfl⟩
  · have hd : cnd (decide ((N1 : Int) < (L : Int))) false true = true := by rw [decide_eq_false (by omega)]; rfl
    have : N1 = L := by omega
    subst this
    rw [hd]
    exact ⟨⟨fun _ => trivial, (fun e => by cases e)⟩, .inl ⟨⟨_, _, _, rfl⟩, rfl, rfl, g5⟩⟩
theorem n19 (v : V19) (h : pre19 v) : (f19 v).ok ∧ (f19 v).get.1 = .slc 1 2 0 v.L ∧ HOws (f19 v).get.2.1 [HO.ro 27 2 v.M (fun j => [SV.int .u64 (v.F j), SV.int .u64 (v.G j)]) v.ob, HO.row 29 2 v.L (fun j => [SV.int .u64 (v.F j), SV.int .u64 (v.G j)])] := by
  obtain ⟨L, M, ob, F, G⟩ := v
  obtain ⟨h1, h2⟩ : L ≤ M ∧ L ≤ 30000000000 := h
  obtain ⟨k1, k2, k3, k4⟩ := l19 (F := F) (G := G) (F' := colI (fun j => []) 0) (G' := colI (fun j => []) 1) (ob := ob) h1 h2
  refine ⟨⟨k1, trivial⟩, congrArg (SV.slc 1 2 0) k2, ?_⟩
  show HOws [_, HO.row 29 2 (f19z0 (V19.mk L M ob F G)).N1 _] _
  rw [show (f19z0 (V19.mk L M ob F G)).N1 = L from k3]
  refine .cons (.refl _) (.cons (.row fun i hi => ?_) .nil)
  have := k4 i hi
  exact (congrArg (fun a => [SV.int .u64 a, SV.int .u64 _]) this.1).trans (congrArg (fun b => [SV.int .u64 (F i), SV.int .u64 b]) this.2)
noncomputable def f19n (v : V19) : Tr (Fin th.R) := .need (pre19 v) (.leaf (.slc 1 2 0 v.L, [.ro 27 2 v.M (fun j => [.int .u64 (v.F j), .int .u64 (v.G j)]) v.ob, .row 29 2 v.L (fun j => [.int .u64 (v.F j), .int .u64 (v.G j)])], []))
theorem s19n : Sound Try.prog th 19 (fnC d19 ofV19 f19n) := fnC_refine s19 fun v h => by
  obtain ⟨hp, _⟩ := h
  obtain ⟨a, b, c⟩ := n19 v hp
  exact ⟨a, b.symm, (qdd19 v).symm, c, by show 1 ≤ 2; decide⟩
structure V19w where
  L : Nat
  M : Nat
  F : Nat → Int
  G : Nat → Int
def inj19 (v : V19w) (o : Obj) : V19 := ⟨v.L, v.M, o, v.F, v.G⟩
def A19w (v : V19w) : List SV := [.slc 0 2 0 v.L]
def H19w (v : V19w) : List (HO th.R) := [.row 27 2 v.M (fun j => [.int .u64 (v.F j), .int .u64 (v.G j)])]
def toV19w (v : V19w) : List (Vl th.R) := [.n v.L, .n v.M, .c v.F, .c v.G]
def ofV19w : List (Vl th.R) → Option V19w
  | [.n L, .n M, .c F, .c G] => some ⟨L, M, F, G⟩
  | _ => none
def d19w : Ft := ⟨[.slc0 0 2], [.rowc 27 [.int .u64, .int .u64]]⟩
noncomputable def f19w (v : V19w) : Tr (Fin th.R) := .need (pre19 (inj19 v (.cells #[] 0))) (.leaf (.slc 1 2 0 (inj19 v (.cells #[] 0)).L, [.row 27 2 v.M (fun j => [.int .u64 (v.F j), .int .u64 (v.G j)]), .row 29 2 (inj19 v (.cells #[] 0)).L (fun j => [.int .u64 ((inj19 v (.cells #[] 0)).F j), .int .u64 ((inj19 v (.cells #[] 0)).G j)])], []))
theorem cw19 (v : V19w) (o : Obj) : fnC d19 ofV19 f19n (A19 (inj19 v o)) (H19 (inj19 v o)) = some (.need (∀ i, i < v.M → (fun j => [.int .u64 (v.F j), .int .u64 (v.G j)] : Nat → List SV) i = elC (fun j => [.int .u64 (v.F j), .int .u64 (v.G j)] : Nat → List SV) 0 [.int .u64, .int .u64] i) ((f19n (inj19 v o)).map (fixF (H19 (inj19 v o))))) := by kernel_rfl
theorem s19w : Sound Try.prog th 19 (fnC d19w ofV19w f19w) := by
  refine fnC_direct (T := th) d19w A19w H19w toV19w (by kernel_rfl) (fun v => by kernel_rfl) ?_ ?_ (fun v _ => Nat.le_add_left _ _) (fun v _ n hn _ => ?_)
  · intro l v h
    unfold ofV19w at h
    split at h
    · cases h; rfl
    · cases h
  · intro v hok K w0 ρ w vargs I hr
    obtain ⟨hp, _⟩ := hok
    exact ro_row (tl := [.row 29 2 (inj19 v (.cells #[] 0)).L (fun j => [.int .u64 ((inj19 v (.cells #[] 0)).F j), .int .u64 ((inj19 v (.cells #[] 0)).G j)])]) (val := .slc 1 2 0 (inj19 v (.cells #[] 0)).L) (fun o K w0 ρ w vargs I hr => fnC_out s19n (cw19 v o) ⟨fun i _ => rfl, hp, trivial⟩ I hr) I hr
  · have hn : n < 1 := hn
    have : n = 0 := by omega
    subst this; rfl
noncomputable def nice19n : List (Nat × CF th.R) := (19, lift (orC (fnC d19 ofV19 f19n) (fnC d19w ofV19w f19w))) :: nice21n
theorem nok19n : NiceOk Try.prog th nice19n := ⟨lift_sound (orC_sound s19n s19w), nok21n⟩
end Go.Sx.S

namespace Go.Sx.S
open Go Go.Sx Go.Proofs Go.RowKit
set_option maxRecDepth 100000
open So
def pre22 (v : V22) : Prop := v.L ≤ v.M ∧ v.L ≤ 30000000000 ∧ ∀ i, i < v.L → 0 ≤ v.F i ∧ v.G i < 18446744073709551616
def bad22 (x y : Sp) : Prop := mts x y
instance (x y : Sp) : Decidable (bad22 x y) := inferInstanceAs (Decidable (mts x y))
theorem has_dec (x : Sp) (a : Int) : f18_0 x.1 x.2 a = decide (x.1 ≤ a ∧ a < x.2) := by
  rw [Bool.eq_iff_iff, decide_eq_true_iff]
  simp only [f18_0, cnd_and, Bool.and_eq_true, decide_eq_true_eq]
  all_goals exact ⟨fun ⟨a, b⟩ => ⟨a, b⟩, fun ⟨a, b⟩ => ⟨a, b⟩⟩
theorem right_dec (x : Sp) : f12_0 x.1 x.2 = decide (x.1 < x.2) := by
  rw [Bool.eq_iff_iff, decide_eq_true_iff]
  simp only [f12_0, cnd_and, Bool.and_eq_true, decide_eq_true_eq]
  exact ⟨fun ⟨_, b⟩ => b, fun b => ⟨Int.le_refl _, b⟩⟩
theorem meets2_dec (x y : Sp) : f14_0 x.1 x.2 y.1 y.2 = decide (mts x y) := by
  rw [Bool.eq_iff_iff, decide_eq_true_iff]
  simp only [f14_0, right_dec, has_dec, cndB, mts]
  by_cases h1 : x.1 < x.2 <;> by_cases h2 : y.1 < y.2 <;> by_cases h3 : x.1 > y.1 <;> simp [h1, h2, h3] <;> omega
theorem bad22_dec {x y : Sp} (hx : 0 ≤ x.1) (hx' : x.2 < 18446744073709551616) (hy : 0 ≤ y.1) (hy' : y.2 < 18446744073709551616) : f14_0 x.1 x.2 y.1 y.2 = decide (bad22 x y) := meets2_dec x y
theorem l22_1 {i n N : Nat} {b : Bool} {F G : Nat → Int} (hi : i < n) (hN : n ≤ N) (hL : n ≤ 30000000000) (hw : ∀ i, i < n → 0 ≤ F i ∧ G i < 18446744073709551616) :
    LT (r22_1 (P22_1.mk n b i N F G)) (S22_1.mk 0) ∧ (fun s : S22_1 => ((i : Int) ≤ s.x4 ∧ ∀ k, k < i → ¬ bad22 (sp F G i) (sp F G k)) ∨ (s.x4 < (i : Int) ∧ ∃ k, k < i ∧ bad22 (sp F G i) (sp F G k))) (lastS (r22_1 (P22_1.mk n b i N F G)) (S22_1.mk 0)) := by
  refine LT.post (fun s : S22_1 => ∃ k : Nat, s.x4 = k ∧ k ≤ i ∧ ∀ j, j < k → ¬ bad22 (sp F G i) (sp F G j))
    (fun s : S22_1 => ((i : Int) ≤ s.x4 ∧ ∀ k, k < i → ¬ bad22 (sp F G i) (sp F G k)) ∨ (s.x4 < (i : Int) ∧ ∃ k, k < i ∧ bad22 (sp F G i) (sp F G k))) (fun s : S22_1 => (i - s.x4).toNat) ?_ ?_
  rotate_left
  · exact ⟨0, rfl, Nat.zero_le _, fun j h => by omega⟩
  rintro ⟨x⟩ ⟨k, g1, g2, g4⟩
  simp only at g1
  subst g1
  have w2 : IntKind.i64.wrap ((k : Int) + 1) = ((k + 1 : Nat) : Int) := by rw [wi (by omega) (by omega)]; omega
  have dec := @bad22_dec (sp F G i) (sp F G k)
  simp only [r22_1, e22_1_0, e22_1_2, e22_1_3, e22_1_5, Tr.ok, Tr.get, w2, Nat.zero_add, Int.toNat_natCast]
  by_cases hc : k < i
  · have hd : cnd (decide ((k : Int) < (i : Int))) false true = false := by rw [decide_eq_true (by omega)]; rfl
    have dec : f14_0 (F i) (G i) (F k) (G k) = decide (bad22 (sp F G i) (sp F G k)) := dec (hw i hi).1 (hw i hi).2 (hw k (by omega)).1 (hw k (by omega)).2
    rw [dec]
    rw [hd]
    refine ⟨⟨(fun e => by cases e), fun _ => ⟨?_, fun _ => trivial, fun _ => trivial⟩⟩, ?_⟩
    · (repeat' apply And.intro) <;> (intros; omega)
    by_cases hm : bad22 (sp F G i) (sp F G k)
    · rw [decide_eq_true hm]
      exact .inl ⟨⟨_, _, _, rfl⟩, .inr ⟨by omega, k, hc, hm⟩⟩
    · rw [decide_eq_false hm]
      refine .inr ⟨_, rfl, ⟨k + 1, rfl, by omega, fun j h1 => ?_⟩, by simp only; omega⟩
      by_cases hj : j = k
      · subst hj; exact hm
      · exact g4 j (by omega)
  · have hd : cnd (decide ((k : Int) < (i : Int))) false true = true := by rw [decide_eq_false (by omega)]; rfl
    rw [hd]
    exact ⟨⟨fun _ => trivial, (fun e => by cases e)⟩, .inl ⟨⟨_, _, _, rfl⟩, .inl ⟨by omega, fun j h1 => g4 j (by omega)⟩⟩⟩
def all22 (E : Nat → Sp) (i : Nat) : Prop := ∀ j, j < i → (E j).1 < (E j).2 ∧ ∀ k, k < j → ¬ bad22 (E j) (E k)
theorem l22 {n N : Nat} {b : Bool} {F G : Nat → Int} (hN : n ≤ N) (hL : n ≤ 30000000000) (hw : ∀ i, i < n → 0 ≤ F i ∧ G i < 18446744073709551616) :
    LT (r22_0 (P22_0.mk n b N F G)) (S22_0.mk 0) ∧ (fun s : S22_0 => ((n : Int) ≤ s.x3 ∧ all22 (sp F G) n) ∨ (s.x3 < (n : Int) ∧ ¬ all22 (sp F G) n)) (lastS (r22_0 (P22_0.mk n b N F G)) (S22_0.mk 0)) := by
  refine LT.post (fun s : S22_0 => ∃ i : Nat, s.x3 = i ∧ i ≤ n ∧ all22 (sp F G) i)
    (fun s : S22_0 => ((n : Int) ≤ s.x3 ∧ all22 (sp F G) n) ∨ (s.x3 < (n : Int) ∧ ¬ all22 (sp F G) n)) (fun s : S22_0 => (n - s.x3).toNat) ?_ ?_
  rotate_left
  · exact ⟨0, rfl, Nat.zero_le _, fun j h => by omega⟩
  rintro ⟨x⟩ ⟨i, g1, g2, g4⟩
  simp only at g1
  subst g1
  have w2 : IntKind.i64.wrap ((i : Int) + 1) = ((i + 1 : Nat) : Int) := by rw [wi (by omega) (by omega)]; omega
  have dec : f12_0 (F i) (G i) = decide (F i < G i) := right_dec (sp F G i)
  simp only [r22_0, e22_0_0, e22_0_2, e22_0_3, e22_0_4, e22_0_6, e22_0_7, e22_0_9, Tr.ok, Tr.get, w2, Nat.zero_add, Int.toNat_natCast]
  by_cases hc : i < n
  · have hd : cnd (decide ((i : Int) < (n : Int))) false true = false := by rw [decide_eq_true (by omega)]; rfl
    obtain ⟨k1, k2⟩ := l22_1 (b := b) hc hN hL hw
    rw [dec, hd]
    by_cases hr : F i < G i
    · rw [decide_eq_true hr]
      have k3 : ∀ s : S22_1, (((i : Int) ≤ s.x4 ∧ ∀ k, k < i → ¬ bad22 (sp F G i) (sp F G k)) ∨ (s.x4 < (i : Int) ∧ ∃ k, k < i ∧ bad22 (sp F G i) (sp F G k))) →
          cnd (e22_1_0 (P22_1.mk n b i N F G) s) false true = decide (∃ k, k < i ∧ bad22 (sp F G i) (sp F G k)) := by
        intro s h
        rcases h with ⟨a, q⟩ | ⟨a, q⟩
        · rw [decide_eq_false (fun ⟨k, e1, e2⟩ => q k e1 e2)]
          simp only [e22_1_0]
          rw [decide_eq_false (by omega)]; rfl
        · rw [decide_eq_true q]
          simp only [e22_1_0]
          rw [decide_eq_true (by omega)]; rfl
      rw [k3 _ k2]
      refine ⟨⟨(fun e => by cases e), fun _ => ⟨⟨by omega, by omega⟩, by omega, (fun e => by cases e), fun _ => ⟨k1, fun _ => trivial, fun _ => trivial⟩⟩⟩, ?_⟩
      by_cases hm : ∃ k, k < i ∧ bad22 (sp F G i) (sp F G k)
      · rw [decide_eq_true hm]
        obtain ⟨k, q1, q2⟩ := hm
        exact .inl ⟨⟨_, _, _, rfl⟩, .inr ⟨by omega, fun a => (a i hc).2 k q1 q2⟩⟩
      · rw [decide_eq_false hm]
        refine .inr ⟨_, rfl, ⟨i + 1, rfl, by omega, fun j h1 => ?_⟩, by simp only; omega⟩
        by_cases hj : j = i
        · subst hj; exact ⟨hr, fun k q1 q2 => hm ⟨k, q1, q2⟩⟩
        · exact g4 j (by omega)
    · rw [decide_eq_false hr]
      exact ⟨⟨(fun e => by cases e), fun _ => ⟨⟨by omega, by omega⟩, by omega, fun _ => trivial, (fun e => by cases e)⟩⟩, .inl ⟨⟨_, _, _, rfl⟩, .inr ⟨by omega, fun a => hr (a i hc).1⟩⟩⟩
  · have hd : cnd (decide ((i : Int) < (n : Int))) false true = true := by rw [decide_eq_false (by omega)]; rfl
    have : i = n := by omega
    subst this
    rw [hd]
    exact ⟨⟨fun _ => trivial, (fun e => by cases e)⟩, .inl ⟨⟨_, _, _, rfl⟩, .inl ⟨by omega, g4⟩⟩⟩
theorem all22_iff (E : Nat → Sp) (n : Nat) : all22 E n ↔ Ap (seg E 0 n) := by
  rw [Ap_seg]
  exact ⟨fun h => ⟨fun i hi => (h i hi).1, fun k i h1 h2 h3 => (h i h2).2 k h1 (mts_symm h3)⟩, fun h i hi => ⟨h.1 i hi, fun k hk h3 => h.2 k i hk hi (mts_symm h3)⟩⟩
theorem n22 (v : V22) (h : pre22 v) : (f22 v).ok ∧ (f22 v).get.1 = .bool (decide (Ap (seg (sp v.F v.G) 0 v.L))) ∧ HOws (f22 v).get.2.1 [HO.row 29 2 v.M (fun j => [SV.int .u64 (v.F j), SV.int .u64 (v.G j)])] := by
  obtain ⟨L, M, F, G⟩ := v
  obtain ⟨h1, h2, h3⟩ : L ≤ M ∧ L ≤ 30000000000 ∧ ∀ i, i < L → 0 ≤ F i ∧ G i < 18446744073709551616 := h
  obtain ⟨k1, k2⟩ := l22 (b := false) h1 h2 h3
  refine ⟨⟨k1, trivial⟩, ?_, .refl _⟩
  show SV.bool (f22_2 _) = _
  congr 1
  rw [Bool.eq_iff_iff, decide_eq_true_iff, ← all22_iff]
  have key : ∀ s : S22_0, (((L : Int) ≤ s.x3 ∧ all22 (sp F G) L) ∨ (s.x3 < (L : Int) ∧ ¬ all22 (sp F G) L)) →
      ((cnd (cnd (e22_0_0 (P22_0.mk L false M F G) s) false (e22_0_4 (P22_0.mk L false M F G) s)) false (cnd (cnd (e22_0_0 (P22_0.mk L false M F G) s) false true) false true) = true) ↔ all22 (sp F G) L) := by
    intro s k2
    simp only [e22_0_0]
    rcases k2 with ⟨a, b⟩ | ⟨a, b⟩
    · rw [decide_eq_false (by omega)]
      exact ⟨fun _ => b, fun _ => rfl⟩
    · rw [decide_eq_true (by omega)]
      refine ⟨fun e => ?_, fun e => absurd e b⟩
      exfalso
      revert e
      show ¬ cnd (e22_0_4 (P22_0.mk L false M F G) s) false false = true
      cases e22_0_4 (P22_0.mk L false M F G) s <;> simp [cndB]
  exact key _ k2
noncomputable def f22n (v : V22) : Tr (Fin th.R) := .need (pre22 v) (.leaf (.bool (decide (So.Ap (So.seg (sp v.F v.G) 0 v.L))), [.row 29 2 v.M (fun j => [.int .u64 (v.F j), .int .u64 (v.G j)])], []))
theorem s22n : Sound Try.prog th 22 (fnC d22 ofV22 f22n) := fnC_refine s22 fun v h => by
  obtain ⟨hp, _⟩ := h
  obtain ⟨a, b, c⟩ := n22 v hp
  exact ⟨a, b.symm, (qdd22 v).symm, c, by show 1 ≤ 1; decide⟩
noncomputable def nice22n : List (Nat × CF th.R) := (22, lift (fnC d22 ofV22 f22n)) :: nice19n
theorem nok22n : NiceOk Try.prog th nice22n := ⟨lift_sound s22n, nok19n⟩
end Go.Sx.S

namespace Go.Sx.S
open Go Go.Sx Go.Proofs Go.RowKit
set_option maxRecDepth 100000
open So
def pre23 (v : V23) : Prop := v.L ≤ v.M ∧ v.L ≤ 30000000000 ∧ ∀ i, i < v.L → 0 ≤ v.F i ∧ v.G i < 18446744073709551616
def bad23 (x y : Sp) : Prop := ¬ td x y
instance (x y : Sp) : Decidable (bad23 x y) := inferInstanceAs (Decidable (¬ td x y))
theorem in2_dec {x y : Sp} (hx : 0 ≤ x.1) (hx' : x.2 < 18446744073709551616) : f16_0 x.1 x.2 y.1 y.2 = decide (inn x y) := by
  rw [Bool.eq_iff_iff, decide_eq_true_iff]
  simp only [f16_0, right_dec, has_dec, cnd_and, Bool.and_eq_true, decide_eq_true_eq, inn]
  by_cases h1 : x.1 < x.2
  · rw [wrap_u64_id (by omega) (by omega)]
    omega
  · omega
theorem bad23_dec {x y : Sp} (hx : 0 ≤ x.1) (hx' : x.2 < 18446744073709551616) (hy : 0 ≤ y.1) (hy' : y.2 < 18446744073709551616) :
    cnd (cnd (f14_0 x.1 x.2 y.1 y.2) (!f16_0 x.1 x.2 y.1 y.2) false) (!f16_0 y.1 y.2 x.1 x.2) false = decide (bad23 x y) := by
  rw [meets2_dec, in2_dec hx hx', in2_dec hy hy', Bool.eq_iff_iff, decide_eq_true_iff]
  simp only [cnd_and, Bool.and_eq_true, decide_eq_true_eq, Bool.not_eq_true', decide_eq_false_iff_not, bad23, td]
  constructor
  · rintro ⟨⟨a, b⟩, c⟩ h
    rcases h a with h | h
    · exact b h
    · exact c h
  · intro h
    refine ⟨⟨?_, fun q => h fun _ => .inl q⟩, fun q => h fun _ => .inr q⟩
    exact Decidable.byContradiction fun q => h fun w => absurd w q
theorem l23_1 {i n N : Nat} {b : Bool} {F G : Nat → Int} (hi : i < n) (hN : n ≤ N) (hL : n ≤ 30000000000) (hw : ∀ i, i < n → 0 ≤ F i ∧ G i < 18446744073709551616) :
    LT (r23_1 (P23_1.mk n b i N F G)) (S23_1.mk 0) ∧ (fun s : S23_1 => ((i : Int) ≤ s.x4 ∧ ∀ k, k < i → ¬ bad23 (sp F G i) (sp F G k)) ∨ (s.x4 < (i : Int) ∧ ∃ k, k < i ∧ bad23 (sp F G i) (sp F G k))) (lastS (r23_1 (P23_1.mk n b i N F G)) (S23_1.mk 0)) := by
  refine LT.post (fun s : S23_1 => ∃ k : Nat, s.x4 = k ∧ k ≤ i ∧ ∀ j, j < k → ¬ bad23 (sp F G i) (sp F G j))
    (fun s : S23_1 => ((i : Int) ≤ s.x4 ∧ ∀ k, k < i → ¬ bad23 (sp F G i) (sp F G k)) ∨ (s.x4 < (i : Int) ∧ ∃ k, k < i ∧ bad23 (sp F G i) (sp F G k))) (fun s : S23_1 => (i - s.x4).toNat) ?_ ?_
  rotate_left
  · exact ⟨0, rfl, Nat.zero_le _, fun j h => by omega⟩
  rintro ⟨x⟩ ⟨k, g1, g2, g4⟩
  simp only at g1
  subst g1
  have w2 : IntKind.i64.wrap ((k : Int) + 1) = ((k + 1 : Nat) : Int) := by rw [wi (by omega) (by omega)]; omega
  have dec := @bad23_dec (sp F G i) (sp F G k)
  simp only [r23_1, e23_1_0, e23_1_2, e23_1_3, e23_1_5, Tr.ok, Tr.get, w2, Nat.zero_add, Int.toNat_natCast]
  by_cases hc : k < i
  · have hd : cnd (decide ((k : Int) < (i : Int))) false true = false := by rw [decide_eq_true (by omega)]; rfl
    have dec : cnd (cnd (f14_0 (F i) (G i) (F k) (G k)) (!f16_0 (F i) (G i) (F k) (G k)) false) (!f16_0 (F k) (G k) (F i) (G i)) false = decide (bad23 (sp F G i) (sp F G k)) := dec (hw i hi).1 (hw i hi).2 (hw k (by omega)).1 (hw k (by omega)).2
    rw [dec]
    rw [hd]
    refine ⟨⟨(fun e => by cases e), fun _ => ⟨?_, fun _ => trivial, fun _ => trivial⟩⟩, ?_⟩
    · (repeat' apply And.intro) <;> (intros; omega)
    by_cases hm : bad23 (sp F G i) (sp F G k)
    · rw [decide_eq_true hm]
      exact .inl ⟨⟨_, _, _, rfl⟩, .inr ⟨by omega, k, hc, hm⟩⟩
    · rw [decide_eq_false hm]
      refine .inr ⟨_, rfl, ⟨k + 1, rfl, by omega, fun j h1 => ?_⟩, by simp only; omega⟩
      by_cases hj : j = k
      · subst hj; exact hm
      · exact g4 j (by omega)
  · have hd : cnd (decide ((k : Int) < (i : Int))) false true = true := by rw [decide_eq_false (by omega)]; rfl
    rw [hd]
    exact ⟨⟨fun _ => trivial, (fun e => by cases e)⟩, .inl ⟨⟨_, _, _, rfl⟩, .inl ⟨by omega, fun j h1 => g4 j (by omega)⟩⟩⟩
def all23 (E : Nat → Sp) (i : Nat) : Prop := ∀ j, j < i → (E j).1 < (E j).2 ∧ ∀ k, k < j → ¬ bad23 (E j) (E k)
theorem l23 {n N : Nat} {b : Bool} {F G : Nat → Int} (hN : n ≤ N) (hL : n ≤ 30000000000) (hw : ∀ i, i < n → 0 ≤ F i ∧ G i < 18446744073709551616) :
    LT (r23_0 (P23_0.mk n b N F G)) (S23_0.mk 0) ∧ (fun s : S23_0 => ((n : Int) ≤ s.x3 ∧ all23 (sp F G) n) ∨ (s.x3 < (n : Int) ∧ ¬ all23 (sp F G) n)) (lastS (r23_0 (P23_0.mk n b N F G)) (S23_0.mk 0)) := by
  refine LT.post (fun s : S23_0 => ∃ i : Nat, s.x3 = i ∧ i ≤ n ∧ all23 (sp F G) i)
    (fun s : S23_0 => ((n : Int) ≤ s.x3 ∧ all23 (sp F G) n) ∨ (s.x3 < (n : Int) ∧ ¬ all23 (sp F G) n)) (fun s : S23_0 => (n - s.x3).toNat) ?_ ?_
  rotate_left
  · exact ⟨0, rfl, Nat.zero_le _, fun j h => by omega⟩
  rintro ⟨x⟩ ⟨i, g1, g2, g4⟩
  simp only at g1
  subst g1
  have w2 : IntKind.i64.wrap ((i : Int) + 1) = ((i + 1 : Nat) : Int) := by rw [wi (by omega) (by omega)]; omega
  have dec : f12_0 (F i) (G i) = decide (F i < G i) := right_dec (sp F G i)
  simp only [r23_0, e23_0_0, e23_0_2, e23_0_3, e23_0_4, e23_0_6, e23_0_7, e23_0_9, Tr.ok, Tr.get, w2, Nat.zero_add, Int.toNat_natCast]
  by_cases hc : i < n
  · have hd : cnd (decide ((i : Int) < (n : Int))) false true = false := by rw [decide_eq_true (by omega)]; rfl
    obtain ⟨k1, k2⟩ := l23_1 (b := b) hc hN hL hw
    rw [dec, hd]
    by_cases hr : F i < G i
    · rw [decide_eq_true hr]
      have k3 : ∀ s : S23_1, (((i : Int) ≤ s.x4 ∧ ∀ k, k < i → ¬ bad23 (sp F G i) (sp F G k)) ∨ (s.x4 < (i : Int) ∧ ∃ k, k < i ∧ bad23 (sp F G i) (sp F G k))) →
          cnd (e23_1_0 (P23_1.mk n b i N F G) s) false true = decide (∃ k, k < i ∧ bad23 (sp F G i) (sp F G k)) := by
        intro s h
        rcases h with ⟨a, q⟩ | ⟨a, q⟩
        · rw [decide_eq_false (fun ⟨k, e1, e2⟩ => q k e1 e2)]
          simp only [e23_1_0]
          rw [decide_eq_false (by omega)]; rfl
        · rw [decide_eq_true q]
          simp only [e23_1_0]
          rw [decide_eq_true (by omega)]; rfl
      rw [k3 _ k2]
      refine ⟨⟨(fun e => by cases e), fun _ => ⟨⟨by omega, by omega⟩, by omega, (fun e => by cases e), fun _ => ⟨k1, fun _ => trivial, fun _ => trivial⟩⟩⟩, ?_⟩
      by_cases hm : ∃ k, k < i ∧ bad23 (sp F G i) (sp F G k)
      · rw [decide_eq_true hm]
        obtain ⟨k, q1, q2⟩ := hm
        exact .inl ⟨⟨_, _, _, rfl⟩, .inr ⟨by omega, fun a => (a i hc).2 k q1 q2⟩⟩
      · rw [decide_eq_false hm]
        refine .inr ⟨_, rfl, ⟨i + 1, rfl, by omega, fun j h1 => ?_⟩, by simp only; omega⟩
        by_cases hj : j = i
        · subst hj; exact ⟨hr, fun k q1 q2 => hm ⟨k, q1, q2⟩⟩
        · exact g4 j (by omega)
    · rw [decide_eq_false hr]
      exact ⟨⟨(fun e => by cases e), fun _ => ⟨⟨by omega, by omega⟩, by omega, fun _ => trivial, (fun e => by cases e)⟩⟩, .inl ⟨⟨_, _, _, rfl⟩, .inr ⟨by omega, fun a => hr (a i hc).1⟩⟩⟩
  · have hd : cnd (decide ((i : Int) < (n : Int))) false true = true := by rw [decide_eq_false (by omega)]; rfl
    have : i = n := by omega
    subst this
    rw [hd]
    exact ⟨⟨fun _ => trivial, (fun e => by cases e)⟩, .inl ⟨⟨_, _, _, rfl⟩, .inl ⟨by omega, g4⟩⟩⟩
theorem all23_iff (E : Nat → Sp) (n : Nat) : all23 E n ↔ Td (seg E 0 n) := by
  rw [Td_seg]
  exact ⟨fun h => ⟨fun i hi => (h i hi).1, fun k i h1 h2 => td_symm (Decidable.byContradiction fun q => (h i h2).2 k h1 q)⟩, fun h i hi => ⟨h.1 i hi, fun k hk q => q (td_symm (h.2 k i hk hi))⟩⟩
theorem n23 (v : V23) (h : pre23 v) : (f23 v).ok ∧ (f23 v).get.1 = .bool (decide (Td (seg (sp v.F v.G) 0 v.L))) ∧ HOws (f23 v).get.2.1 [HO.row 29 2 v.M (fun j => [SV.int .u64 (v.F j), SV.int .u64 (v.G j)])] := by
  obtain ⟨L, M, F, G⟩ := v
  obtain ⟨h1, h2, h3⟩ : L ≤ M ∧ L ≤ 30000000000 ∧ ∀ i, i < L → 0 ≤ F i ∧ G i < 18446744073709551616 := h
  obtain ⟨k1, k2⟩ := l23 (b := false) h1 h2 h3
  refine ⟨⟨k1, trivial⟩, ?_, .refl _⟩
  show SV.bool (f23_2 _) = _
  congr 1
  rw [Bool.eq_iff_iff, decide_eq_true_iff, ← all23_iff]
  have key : ∀ s : S23_0, (((L : Int) ≤ s.x3 ∧ all23 (sp F G) L) ∨ (s.x3 < (L : Int) ∧ ¬ all23 (sp F G) L)) →
      ((cnd (cnd (e23_0_0 (P23_0.mk L false M F G) s) false (e23_0_4 (P23_0.mk L false M F G) s)) false (cnd (cnd (e23_0_0 (P23_0.mk L false M F G) s) false true) false true) = true) ↔ all23 (sp F G) L) := by
    intro s k2
    simp only [e23_0_0]
    rcases k2 with ⟨a, b⟩ | ⟨a, b⟩
    · rw [decide_eq_false (by omega)]
      exact ⟨fun _ => b, fun _ => rfl⟩
    · rw [decide_eq_true (by omega)]
      refine ⟨fun e => ?_, fun e => absurd e b⟩
      exfalso
      revert e
      show ¬ cnd (e23_0_4 (P23_0.mk L false M F G) s) false false = true
      cases e23_0_4 (P23_0.mk L false M F G) s <;> simp [cndB]
  exact key _ k2
noncomputable def f23n (v : V23) : Tr (Fin th.R) := .need (pre23 v) (.leaf (.bool (decide (So.Td (So.seg (sp v.F v.G) 0 v.L))), [.row 29 2 v.M (fun j => [.int .u64 (v.F j), .int .u64 (v.G j)])], []))
theorem s23n : Sound Try.prog th 23 (fnC d23 ofV23 f23n) := fnC_refine s23 fun v h => by
  obtain ⟨hp, _⟩ := h
  obtain ⟨a, b, c⟩ := n23 v hp
  exact ⟨a, b.symm, (qdd23 v).symm, c, by show 1 ≤ 1; decide⟩
noncomputable def nice23n : List (Nat × CF th.R) := (23, lift (fnC d23 ofV23 f23n)) :: nice22n
theorem nok23n : NiceOk Try.prog th nice23n := ⟨lift_sound s23n, nok22n⟩
end Go.Sx.S

namespace Go.Sx.S
open Go Go.Sx Go.Proofs Go.RowKit
set_option maxRecDepth 100000
structure V5 where
  L : Nat
  M : Nat
  ob : Obj
  F : Nat → Int
  G : Nat → Int
def A5 (v : V5) : List SV := [.slc 0 2 0 v.L]
def H5 (v : V5) : List (HO th.R) := [.ro 27 2 v.M (fun j => [.int .u64 (v.F j), .int .u64 (v.G j)]) v.ob]
def toV5 (v : V5) : List (Vl th.R) := [.n v.L, .n v.M, .o v.ob, .c v.F, .c v.G]
def ofV5 : List (Vl th.R) → Option V5
  | [.n L, .n M, .o ob, .c F, .c G] => some ⟨L, M, ob, F, G⟩
  | _ => none
def d5 : Ft := ⟨[.slc0 0 2], [.roc 27 [.int .u64, .int .u64]]⟩
noncomputable def f5_0 (v : V5) : (Prop) := false = false → decide ((↑v.L : Int) > (60 : Int)) = false → ∀ (i : Nat), scpL (0:Nat) ((fun (j : Nat) => [SV.int IntKind.u64 (v.F j), SV.int IntKind.u64 (v.G j)]) i) = true
noncomputable def f5_1 (v : V5) : (Prop) := false = false → decide ((↑v.L : Int) > (60 : Int)) = false → ∀ (i : Nat), i < v.M → (fun (j : Nat) => [SV.int IntKind.u64 (v.F j), SV.int IntKind.u64 (v.G j)]) i = elC (fun (j : Nat) => [SV.int IntKind.u64 (v.F j), SV.int IntKind.u64 (v.G j)]) (0:Nat) [Ck.int IntKind.u64, Ck.int IntKind.u64] i
noncomputable def f5_2 (v : V5) : (Prop) := false = false → decide ((↑v.L : Int) > (60 : Int)) = false → pre19 (V19.mk v.L v.M v.ob v.F v.G)
noncomputable def f5_3 (v : V5) : (Prop) := false = false → decide ((↑v.L : Int) > (60 : Int)) = false → (∀ (i : Nat), scpL (0:Nat) ((fun (j : Nat) => [SV.int IntKind.u64 (v.F j), SV.int IntKind.u64 (v.G j)]) i) = true) ∧ ∀ (i : Nat), scpL (0:Nat) ((fun (j : Nat) => [SV.int IntKind.u64 (v.F j), SV.int IntKind.u64 (v.G j)]) i) = true
noncomputable def f5_4 (v : V5) : (Prop) := false = false → decide ((↑v.L : Int) > (60 : Int)) = false → pre20 (V20.mk v.L v.M v.ob v.F v.G)
noncomputable def f5_5 (v : V5) : (Prop) := false = false → decide ((↑v.L : Int) > (60 : Int)) = false → pre21 (V21.mk v.L v.M v.ob v.F v.G)
noncomputable def f5_6 (v : V5) : (Prop) := false = false → decide ((↑v.L : Int) > (60 : Int)) = false → pre10 (V10.mk v.L v.M v.ob v.F v.G)
noncomputable def f5_7 (v : V5) : (Prop) := false = false → decide ((↑v.L : Int) > (60 : Int)) = false → (∀ (i : Nat), scpL (0:Nat) ((fun (j : Nat) => [SV.int IntKind.u64 (v.F j), SV.int IntKind.u64 (v.G j)]) i) = true) ∧ ∀ (i : Nat), scpL (0:Nat) ((fun (j : Nat) => [SV.int IntKind.u64 (So.srt (sp v.F v.G) (0:Nat) v.L j).fst, SV.int IntKind.u64 (So.srt (sp v.F v.G) (0:Nat) v.L j).snd]) i) = true
noncomputable def f5_8 (v : V5) : (Prop) := false = false → decide ((↑v.L : Int) > (60 : Int)) = false → ∀ (i : Nat), i < v.L → (fun (j : Nat) => [SV.int IntKind.u64 (v.F j), SV.int IntKind.u64 (v.G j)]) i = elC (fun (j : Nat) => [SV.int IntKind.u64 (v.F j), SV.int IntKind.u64 (v.G j)]) (0:Nat) [Ck.int IntKind.u64, Ck.int IntKind.u64] i
noncomputable def f5_9 (v : V5) : (Prop) := false = false → decide ((↑v.L : Int) > (60 : Int)) = false → pre22 (V22.mk v.L v.L v.F v.G)
noncomputable def f5_10 (v : V5) : (Prop) := false = false → decide ((↑v.L : Int) > (60 : Int)) = false → cnd (decide (So.Ap (So.seg (sp v.F v.G) (0:Nat) v.L)) == decide (So.Ap (So.seg (sp v.F v.G) (0:Nat) v.L))) true false = true → (∀ (i : Nat), scpL (0:Nat) ((fun (j : Nat) => [SV.int IntKind.u64 (v.F j), SV.int IntKind.u64 (v.G j)]) i) = true) ∧ (∀ (i : Nat), i < v.L → (fun (j : Nat) => [SV.int IntKind.u64 (v.F j), SV.int IntKind.u64 (v.G j)]) i = elC (fun (j : Nat) => [SV.int IntKind.u64 (v.F j), SV.int IntKind.u64 (v.G j)]) (0:Nat) [Ck.int IntKind.u64, Ck.int IntKind.u64] i) ∧ pre23 (V23.mk v.L v.L v.F v.G) ∧ ∀ (i : Nat), scpL (0:Nat) ((fun (j : Nat) => [SV.int IntKind.u64 (v.F j), SV.int IntKind.u64 (v.G j)]) i) = true
noncomputable def f5_11 (v : V5) : (Prop) := false = false → decide ((↑v.L : Int) > (60 : Int)) = false → cnd (cnd (cnd (decide (So.Ap (So.seg (sp v.F v.G) (0:Nat) v.L)) == decide (So.Ap (So.seg (sp v.F v.G) (0:Nat) v.L))) (decide (So.Td (So.seg (sp v.F v.G) (0:Nat) v.L)) == decide (So.Td (So.seg (sp v.F v.G) (0:Nat) v.L))) false) (cnd (!decide (So.Ap (So.seg (sp v.F v.G) (0:Nat) v.L))) true (decide (So.Td (So.seg (sp v.F v.G) (0:Nat) v.L)))) false) true false = true → (∀ (i : Nat), scpL (0:Nat) ((fun (j : Nat) => [SV.int IntKind.u64 (So.srt (sp v.F v.G) (0:Nat) v.L j).fst, SV.int IntKind.u64 (So.srt (sp v.F v.G) (0:Nat) v.L j).snd]) i) = true) ∧ (∀ (i : Nat), i < v.L → (fun (j : Nat) => [SV.int IntKind.u64 (So.srt (sp v.F v.G) (0:Nat) v.L j).fst, SV.int IntKind.u64 (So.srt (sp v.F v.G) (0:Nat) v.L j).snd]) i = elC (fun (j : Nat) => [SV.int IntKind.u64 (So.srt (sp v.F v.G) (0:Nat) v.L j).fst, SV.int IntKind.u64 (So.srt (sp v.F v.G) (0:Nat) v.L j).snd]) (0:Nat) [Ck.int IntKind.u64, Ck.int IntKind.u64] i) ∧ pre20 (inj20 (V20w.mk v.L v.L (fun (j : Nat) => (So.srt (sp v.F v.G) (0:Nat) v.L j).fst) fun (j : Nat) => (So.srt (sp v.F v.G) (0:Nat) v.L j).snd) (Go.Obj.cells #[] (0 : Go.TypeId))) ∧ ∀ (i : Nat), scpL (0:Nat) ((fun (j : Nat) => [SV.int IntKind.u64 (So.srt (sp v.F v.G) (0:Nat) v.L j).fst, SV.int IntKind.u64 (So.srt (sp v.F v.G) (0:Nat) v.L j).snd]) i) = true
noncomputable def f5_12 (v : V5) : (Prop) := false = false → decide ((↑v.L : Int) > (60 : Int)) = false → cnd (cnd (cnd (cnd (decide (So.Ap (So.seg (sp v.F v.G) (0:Nat) v.L)) == decide (So.Ap (So.seg (sp v.F v.G) (0:Nat) v.L))) (decide (So.Td (So.seg (sp v.F v.G) (0:Nat) v.L)) == decide (So.Td (So.seg (sp v.F v.G) (0:Nat) v.L))) false) (cnd (!decide (So.Ap (So.seg (sp v.F v.G) (0:Nat) v.L))) true (decide (So.Td (So.seg (sp v.F v.G) (0:Nat) v.L)))) false) (decide (So.Ap (So.seg (sp (inj20 (V20w.mk v.L v.L (fun (j : Nat) => (So.srt (sp v.F v.G) (0:Nat) v.L j).fst) fun (j : Nat) => (So.srt (sp v.F v.G) (0:Nat) v.L j).snd) (Go.Obj.cells #[] (0 : Go.TypeId))).F (inj20 (V20w.mk v.L v.L (fun (j : Nat) => (So.srt (sp v.F v.G) (0:Nat) v.L j).fst) fun (j : Nat) => (So.srt (sp v.F v.G) (0:Nat) v.L j).snd) (Go.Obj.cells #[] (0 : Go.TypeId))).G) (0:Nat) (inj20 (V20w.mk v.L v.L (fun (j : Nat) => (So.srt (sp v.F v.G) (0:Nat) v.L j).fst) fun (j : Nat) => (So.srt (sp v.F v.G) (0:Nat) v.L j).snd) (Go.Obj.cells #[] (0 : Go.TypeId))).L)) == decide (So.Ap (So.seg (sp v.F v.G) (0:Nat) v.L))) false) true false = true → (∀ (i : Nat), scpL (0:Nat) ((fun (j : Nat) => [SV.int IntKind.u64 (So.srt (sp v.F v.G) (0:Nat) v.L j).fst, SV.int IntKind.u64 (So.srt (sp v.F v.G) (0:Nat) v.L j).snd]) i) = true) ∧ (∀ (i : Nat), i < v.L → (fun (j : Nat) => [SV.int IntKind.u64 (So.srt (sp v.F v.G) (0:Nat) v.L j).fst, SV.int IntKind.u64 (So.srt (sp v.F v.G) (0:Nat) v.L j).snd]) i = elC (fun (j : Nat) => [SV.int IntKind.u64 (So.srt (sp v.F v.G) (0:Nat) v.L j).fst, SV.int IntKind.u64 (So.srt (sp v.F v.G) (0:Nat) v.L j).snd]) (0:Nat) [Ck.int IntKind.u64, Ck.int IntKind.u64] i) ∧ pre21 (inj21 (V21w.mk v.L v.L (fun (j : Nat) => (So.srt (sp v.F v.G) (0:Nat) v.L j).fst) fun (j : Nat) => (So.srt (sp v.F v.G) (0:Nat) v.L j).snd) (Go.Obj.cells #[] (0 : Go.TypeId))) ∧ ∀ (i : Nat), scpL (0:Nat) ((fun (j : Nat) => [SV.int IntKind.u64 (So.srt (sp v.F v.G) (0:Nat) v.L j).fst, SV.int IntKind.u64 (So.srt (sp v.F v.G) (0:Nat) v.L j).snd]) i) = true
noncomputable def f5_13 (v : V5) : (Bool) := cnd (decide ((↑v.L : Int) > (60 : Int))) true (cnd (cnd (cnd (cnd (decide (So.Ap (So.seg (sp v.F v.G) (0:Nat) v.L)) == decide (So.Ap (So.seg (sp v.F v.G) (0:Nat) v.L))) (decide (So.Td (So.seg (sp v.F v.G) (0:Nat) v.L)) == decide (So.Td (So.seg (sp v.F v.G) (0:Nat) v.L))) false) (cnd (!decide (So.Ap (So.seg (sp v.F v.G) (0:Nat) v.L))) true (decide (So.Td (So.seg (sp v.F v.G) (0:Nat) v.L)))) false) (decide (So.Ap (So.seg (sp (inj20 (V20w.mk v.L v.L (fun (j : Nat) => (So.srt (sp v.F v.G) (0:Nat) v.L j).fst) fun (j : Nat) => (So.srt (sp v.F v.G) (0:Nat) v.L j).snd) (Go.Obj.cells #[] (0 : Go.TypeId))).F (inj20 (V20w.mk v.L v.L (fun (j : Nat) => (So.srt (sp v.F v.G) (0:Nat) v.L j).fst) fun (j : Nat) => (So.srt (sp v.F v.G) (0:Nat) v.L j).snd) (Go.Obj.cells #[] (0 : Go.TypeId))).G) (0:Nat) (inj20 (V20w.mk v.L v.L (fun (j : Nat) => (So.srt (sp v.F v.G) (0:Nat) v.L j).fst) fun (j : Nat) => (So.srt (sp v.F v.G) (0:Nat) v.L j).snd) (Go.Obj.cells #[] (0 : Go.TypeId))).L)) == decide (So.Ap (So.seg (sp v.F v.G) (0:Nat) v.L))) false) (decide (So.Td (So.seg (sp (inj21 (V21w.mk v.L v.L (fun (j : Nat) => (So.srt (sp v.F v.G) (0:Nat) v.L j).fst) fun (j : Nat) => (So.srt (sp v.F v.G) (0:Nat) v.L j).snd) (Go.Obj.cells #[] (0 : Go.TypeId))).F (inj21 (V21w.mk v.L v.L (fun (j : Nat) => (So.srt (sp v.F v.G) (0:Nat) v.L j).fst) fun (j : Nat) => (So.srt (sp v.F v.G) (0:Nat) v.L j).snd) (Go.Obj.cells #[] (0 : Go.TypeId))).G) (0:Nat) (inj21 (V21w.mk v.L v.L (fun (j : Nat) => (So.srt (sp v.F v.G) (0:Nat) v.L j).fst) fun (j : Nat) => (So.srt (sp v.F v.G) (0:Nat) v.L j).snd) (Go.Obj.cells #[] (0 : Go.TypeId))).L)) == decide (So.Td (So.seg (sp v.F v.G) (0:Nat) v.L))) false)
theorem n_f5_0 (v : V5) : f5_0 v := by
  unfold f5_0
  first
    | (intros; rfl)
    | (intro i; rfl)
    | (intro i _; rfl)
    | (intro _ i; rfl)
    | (intro _ i _; rfl)
    | (refine ⟨?_, ?_⟩ <;> intro i <;> rfl)
    | (refine ⟨?_, ?_, ?_⟩ <;> intro i <;> rfl)
    | (refine ⟨?_, ?_⟩ <;> intro i _ <;> rfl)
    | (repeat' apply And.intro) <;> first | (intro i; rfl) | (intro i _; rfl) | (intro i h; exact absurd h (Nat.not_lt_zero i)) | (intro i; exact scpL_rowSet (by rfl) (by rfl)) | (intro i; exact scpL_rowEl (by kernel_rfl) _)
    | (intros; (repeat' apply And.intro) <;> intros <;> first | rfl | (exact absurd (by assumption) (Nat.not_lt_zero _)))
    | omega
    | decide
theorem n_f5_1 (v : V5) : f5_1 v := by
  unfold f5_1
  first
    | (intros; rfl)
    | (intro i; rfl)
    | (intro i _; rfl)
    | (intro _ i; rfl)
    | (intro _ i _; rfl)
    | (refine ⟨?_, ?_⟩ <;> intro i <;> rfl)
    | (refine ⟨?_, ?_, ?_⟩ <;> intro i <;> rfl)
    | (refine ⟨?_, ?_⟩ <;> intro i _ <;> rfl)
    | (repeat' apply And.intro) <;> first | (intro i; rfl) | (intro i _; rfl) | (intro i h; exact absurd h (Nat.not_lt_zero i)) | (intro i; exact scpL_rowSet (by rfl) (by rfl)) | (intro i; exact scpL_rowEl (by kernel_rfl) _)
    | (intros; (repeat' apply And.intro) <;> intros <;> first | rfl | (exact absurd (by assumption) (Nat.not_lt_zero _)))
    | omega
    | decide
theorem n_f5_3 (v : V5) : f5_3 v := by
  unfold f5_3
  first
    | (intros; rfl)
    | (intro i; rfl)
    | (intro i _; rfl)
    | (intro _ i; rfl)
    | (intro _ i _; rfl)
    | (refine ⟨?_, ?_⟩ <;> intro i <;> rfl)
    | (refine ⟨?_, ?_, ?_⟩ <;> intro i <;> rfl)
    | (refine ⟨?_, ?_⟩ <;> intro i _ <;> rfl)
    | (repeat' apply And.intro) <;> first | (intro i; rfl) | (intro i _; rfl) | (intro i h; exact absurd h (Nat.not_lt_zero i)) | (intro i; exact scpL_rowSet (by rfl) (by rfl)) | (intro i; exact scpL_rowEl (by kernel_rfl) _)
    | (intros; (repeat' apply And.intro) <;> intros <;> first | rfl | (exact absurd (by assumption) (Nat.not_lt_zero _)))
    | omega
    | decide
theorem n_f5_7 (v : V5) : f5_7 v := by
  unfold f5_7
  first
    | (intros; rfl)
    | (intro i; rfl)
    | (intro i _; rfl)
    | (intro _ i; rfl)
    | (intro _ i _; rfl)
    | (refine ⟨?_, ?_⟩ <;> intro i <;> rfl)
    | (refine ⟨?_, ?_, ?_⟩ <;> intro i <;> rfl)
    | (refine ⟨?_, ?_⟩ <;> intro i _ <;> rfl)
    | (repeat' apply And.intro) <;> first | (intro i; rfl) | (intro i _; rfl) | (intro i h; exact absurd h (Nat.not_lt_zero i)) | (intro i; exact scpL_rowSet (by rfl) (by rfl)) | (intro i; exact scpL_rowEl (by kernel_rfl) _)
    | (intros; (repeat' apply And.intro) <;> intros <;> first | rfl | (exact absurd (by assumption) (Nat.not_lt_zero _)))
    | omega
    | decide
theorem n_f5_8 (v : V5) : f5_8 v := by
  unfold f5_8
  first
    | (intros; rfl)
    | (intro i; rfl)
    | (intro i _; rfl)
    | (intro _ i; rfl)
    | (intro _ i _; rfl)
    | (refine ⟨?_, ?_⟩ <;> intro i <;> rfl)
    | (refine ⟨?_, ?_, ?_⟩ <;> intro i <;> rfl)
    | (refine ⟨?_, ?_⟩ <;> intro i _ <;> rfl)
    | (repeat' apply And.intro) <;> first | (intro i; rfl) | (intro i _; rfl) | (intro i h; exact absurd h (Nat.not_lt_zero i)) | (intro i; exact scpL_rowSet (by rfl) (by rfl)) | (intro i; exact scpL_rowEl (by kernel_rfl) _)
    | (intros; (repeat' apply And.intro) <;> intros <;> first | rfl | (exact absurd (by assumption) (Nat.not_lt_zero _)))
    | omega
    | decide
noncomputable def ff5 (v : V5) : Tr (Fin th.R) := (Tr.need (f5_0 v) (Tr.need (f5_1 v) (Tr.need (f5_2 v) (Tr.need (f5_3 v) (Tr.need (f5_0 v) (Tr.need (f5_1 v) (Tr.need (f5_4 v) (Tr.need (f5_0 v) (Tr.need (f5_0 v) (Tr.need (f5_1 v) (Tr.need (f5_5 v) (Tr.need (f5_0 v) (Tr.need (f5_0 v) (Tr.need (f5_1 v) (Tr.need (f5_6 v) (Tr.need (f5_7 v) (Tr.need (f5_0 v) (Tr.need (f5_8 v) (Tr.need (f5_9 v) (Tr.need (f5_0 v) (Tr.need (f5_10 v) (Tr.need (f5_11 v) (Tr.need (f5_12 v) (Tr.leaf (Prod.mk (SV.bool (f5_13 v)) (Prod.mk (List.cons (HO.ro ((27 : Nat)) ((2 : Nat)) (v.M) (fun j => (List.cons (SV.int (IntKind.u64) (v.F j)) (List.cons (SV.int (IntKind.u64) (v.G j)) []))) (v.ob)) []) []))))))))))))))))))))))))))
noncomputable def f5 (v : V5) : Tr (Fin th.R) := (Tr.need (f5_2 v) (Tr.need (f5_4 v) (Tr.need (f5_5 v) (Tr.need (f5_6 v) (Tr.need (f5_9 v) (Tr.need (f5_10 v) (Tr.need (f5_11 v) (Tr.need (f5_12 v) (Tr.leaf (Prod.mk (SV.bool (f5_13 v)) (Prod.mk (List.cons (HO.ro ((27 : Nat)) ((2 : Nat)) (v.M) (fun j => (List.cons (SV.int (IntKind.u64) (v.F j)) (List.cons (SV.int (IntKind.u64) (v.G j)) []))) (v.ob)) []) ([]))))))))))))
noncomputable def C5 : CF th.R := fnC d5 ofV5 (f5 )
theorem q5 (v : V5) : (evFn th Try.prog (auto th Try.prog nice23n [] 20) (autoH [] [] [] [] : Hints th) 5) (A5 v) (H5 v) = some (ff5 v) := by kernel_rfl
theorem qg5 (v : V5) : ((ff5 v).map (setD [])).get = (f5 v).get := by kernel_rfl
theorem qd5 (v : V5) : allD 1 [] (ff5 v) = true := by kernel_rfl
theorem s5 : Sound Try.prog th 5 (C5 ) := fnC_sound (evFn_sound' (T := th) (P := Try.prog) (tbl := (auto th Try.prog nice23n [] 20)) (auto_sound (nice := nice23n) (us := []) nok23n 20) (H := (autoH [] [] [] [] : Hints th)) (k := 5) (fnLoops (LoopsOk_mem (fun _ => rfl) _ fun _ _ _ e => by cases e))) d5 A5 H5 toV5 (by kernel_rfl) (fun v => by kernel_rfl)
  (fun l v h => by
    unfold ofV5 at h
    split at h
    · cases h; rfl
    · cases h)
  [] (fun v => ⟨ff5 v, q5 v, fun h => by
    unfold f5 at h; unfold ff5
    simp only [Tr.ok, n_f5_0, n_f5_1, n_f5_3, n_f5_7, n_f5_8, true_and, and_true, forall_const, implies_true] at h ⊢
    try exact h, qg5 v, qd5 v⟩)
theorem qdd5 (v : V5) : (f5 v).get.2.2 = [] := by
  rw [← qg5, Tr.map_get]; rfl
end Go.Sx.S

section
namespace Go.Sx
theorem u64r {n : Int} (h : (Lit.int .u64 n).wf = true) : 0 ≤ n ∧ n < 18446744073709551616 := by
  simp only [Lit.wf, Bool.and_eq_true, decide_eq_true_eq] at h
  have e1 : IntKind.u64.min = 0 := by decide +kernel
  have e2 : IntKind.u64.max = 18446744073709551615 := by decide +kernel
  rw [e1, e2] at h
  exact ⟨h.1, by omega⟩
end Go.Sx

end

namespace Go.Sx.S
open Go Go.Sx Go.Proofs Go.RowKit
set_option maxRecDepth 100000
open So
def pre5 (v : V5) : Prop := v.L ≤ v.M ∧ ∀ i, i < v.L → 0 ≤ v.F i ∧ v.G i < 18446744073709551616
theorem tidies (a a' t t' : Bool) (h1 : a' = a) (h2 : t' = t) (h3 : a = true → t = true) :
    cnd (cnd (cnd (cnd (a == a) (t == t) false) (cnd (!a) true t) false) (a' == a) false) (t' == t) false = true := by
  subst h1 h2
  revert h3
  cases a' <;> cases t' <;> simp [cndB]
theorem n5 (v : V5) (h : pre5 v) : (f5 v).ok ∧ (f5 v).get.1 = .bool true ∧ HOws (f5 v).get.2.1 [HO.ro 27 2 v.M (fun j => [SV.int .u64 (v.F j), SV.int .u64 (v.G j)]) v.ob] := by
  obtain ⟨L, M, ob, F, G⟩ := v
  obtain ⟨h, hw⟩ : L ≤ M ∧ ∀ i, i < L → 0 ≤ F i ∧ G i < 18446744073709551616 := h
  by_cases hL : L ≤ 60
  · have hd : decide ((L : Int) > 60) = false := decide_eq_false (by omega)
    have hb : L ≤ 30000000000 := by omega
    have ea : decide (Ap (seg (srt (sp F G) 0 L) 0 L)) = decide (Ap (seg (sp F G) 0 L)) := by
      rw [Bool.eq_iff_iff, decide_eq_true_iff, decide_eq_true_iff]; exact Ap.perm (seg_srt _ _)
    have et : decide (Td (seg (srt (sp F G) 0 L) 0 L)) = decide (Td (seg (sp F G) 0 L)) := by
      rw [Bool.eq_iff_iff, decide_eq_true_iff, decide_eq_true_iff]; exact Td.perm (seg_srt _ _)
    have at' : decide (Ap (seg (sp F G) 0 L)) = true → decide (Td (seg (sp F G) 0 L)) = true := fun e => decide_eq_true (of_decide_eq_true e).tidy
    refine ⟨⟨fun _ _ => ⟨h, hb⟩, fun _ _ => ⟨h, hb⟩, fun _ _ => ⟨h, hb⟩, fun _ _ => ⟨h, hb⟩, fun _ _ => ⟨Nat.le_refl _, hb, hw⟩, fun _ _ _ => ⟨fun _ => rfl, fun _ _ => rfl, ⟨Nat.le_refl _, hb, hw⟩, fun _ => rfl⟩, fun _ _ _ => ⟨fun _ => rfl, fun _ _ => rfl, ⟨Nat.le_refl _, hb⟩, fun _ => rfl⟩, fun _ _ _ => ⟨fun _ => rfl, fun _ _ => rfl, ⟨Nat.le_refl _, hb⟩, fun _ => rfl⟩, trivial⟩, ?_, .refl _⟩
    refine congrArg SV.bool ?_
    unfold f5_13
    rw [hd]
    exact tidies _ _ _ _ ea et at'
  · have hd : decide ((L : Int) > 60) = true := decide_eq_true (by omega)
    have no : ∀ {p : Prop}, decide ((L : Int) > 60) = false → p := fun e => by rw [hd] at e; cases e
    refine ⟨⟨fun _ e => no e, fun _ e => no e, fun _ e => no e, fun _ e => no e, fun _ e => no e, fun _ e => no e, fun _ e => no e, fun _ e => no e, trivial⟩, ?_, .refl _⟩
    refine congrArg SV.bool ?_
    unfold f5_13
    rw [hd]
    rfl
noncomputable def f5n (v : V5) : Tr (Fin th.R) := .need (pre5 v) (.leaf (.bool true, [.ro 27 2 v.M (fun j => [.int .u64 (v.F j), .int .u64 (v.G j)]) v.ob], []))
theorem s5n : Sound Try.prog th 5 (fnC d5 ofV5 f5n) := fnC_refine s5 fun v h => by
  obtain ⟨hp, _⟩ := h
  obtain ⟨a, b, c⟩ := n5 v hp
  exact ⟨a, b.symm, (qdd5 v).symm, c, by show 1 ≤ 1; decide⟩
theorem claw5 (v : V5) : fnC d5 ofV5 f5n (A5 v) (H5 v) = some (.need (∀ i, i < v.M → (fun j => [.int .u64 (v.F j), .int .u64 (v.G j)] : Nat → List SV) i = elC (fun j => [.int .u64 (v.F j), .int .u64 (v.G j)] : Nat → List SV) 0 [.int .u64, .int .u64] i) ((f5n v).map (fixF (H5 v)))) := by kernel_rfl
noncomputable def nice5n : List (Nat × CF th.R) := (5, lift (fnC d5 ofV5 f5n)) :: nice23n
theorem nok5n : NiceOk Try.prog th nice5n := ⟨lift_sound s5n, nok23n⟩
end Go.Sx.S

section
namespace Go.Sx.So
/-- One more span of a union. -/
def ust (u : List Sp) (x : Sp) : List Sp := match u.getLast? with
  | some w => if x.1 ≤ w.2 then u.dropLast ++ [(w.1, max w.2 x.2)] else u ++ [x]
  | none => [x]
def un (l : List Sp) : List Sp := l.foldl ust []
theorem ust_nil (x : Sp) : ust [] x = [x] := rfl
theorem ust_snoc (v : List Sp) (w x : Sp) : ust (v ++ [w]) x = if x.1 ≤ w.2 then v ++ [(w.1, max w.2 x.2)] else v ++ [w] ++ [x] := by simp [ust]
theorem un_snoc (l : List Sp) (x : Sp) : un (l ++ [x]) = ust (un l) x := by simp [un, List.foldl_append]
/-- The total so far, and up to where. -/
def tst (s : Int × Int) (x : Sp) : Int × Int := if x.2 > s.2 then (s.1 + (x.2 - max x.1 s.2), x.2) else s
def tot (l : List Sp) : Int × Int := l.foldl tst (0, 0)
theorem tot_snoc (l : List Sp) (x : Sp) : tot (l ++ [x]) = tst (tot l) x := by simp [tot, List.foldl_append]
/-- Is an address in one of some? -/
def Hs (l : List Sp) (a : Int) : Prop := ∃ x, x ∈ l ∧ x.1 ≤ a ∧ a < x.2
theorem Hs_snoc {l : List Sp} {x : Sp} {a : Int} : Hs (l ++ [x]) a ↔ Hs l a ∨ (x.1 ≤ a ∧ a < x.2) := by
  unfold Hs
  constructor
  · rintro ⟨y, hy, h⟩
    rcases List.mem_append.1 hy with hy | hy
    · exact .inl ⟨y, hy, h⟩
    · cases List.mem_singleton.1 hy; exact .inr h
  · rintro (⟨y, hy, h⟩ | h)
    · exact ⟨y, List.mem_append_left _ hy, h⟩
    · exact ⟨x, List.mem_append_right _ (List.mem_singleton.2 rfl), h⟩
theorem Hs_nil {a : Int} : ¬ Hs [] a := fun ⟨_, h, _⟩ => by cases h
instance (l : List Sp) (a : Int) : Decidable (Hs l a) := inferInstanceAs (Decidable (∃ x, x ∈ l ∧ _))
theorem snoc_cases {α : Type} (u : List α) : u = [] ∨ ∃ v w, u = v ++ [w] := by
  by_cases h : u = []
  · exact .inl h
  · exact .inr ⟨u.dropLast, u.getLast h, (List.dropLast_concat_getLast h).symm⟩
structure UI (l u : List Sp) : Prop where
  right : ∀ x, x ∈ u → x.1 < x.2
  rise : u.Pairwise fun x y => x.2 < y.1
  cov : ∀ a, Hs u a ↔ Hs l a
  ins : ∀ s, s ∈ l → ∃ x, x ∈ u ∧ inn s x
  low : ∀ x, x ∈ u → ∃ s, s ∈ l ∧ s.1 = x.1
  same : tot u = tot l
  top : ∀ v w, u = v ++ [w] → (tot v).2 ≤ w.1 ∧ (tot u).2 = w.2
  nn : u = [] → l = []
  high : ∀ x, x ∈ u → ∃ s, s ∈ l ∧ s.2 = x.2
  len : u.length ≤ l.length
theorem UI.nil : UI [] [] := ⟨(fun _ h => by cases h), List.Pairwise.nil, (fun _ => Iff.rfl), (fun _ h => by cases h), (fun _ h => by cases h), rfl, (fun v w h => by simp at h), (fun _ => rfl), (fun _ h => by cases h), Nat.le_refl _⟩
theorem tst_far {s : Int × Int} {w : Sp} (h : s.2 ≤ w.1) (hw : w.1 < w.2) : tst s w = (s.1 + (w.2 - w.1), w.2) := by
  unfold tst
  rw [if_pos (by omega), Int.max_eq_left h]
theorem snoc_inj {v v' : List Sp} {w w' : Sp} (h : v ++ [w] = v' ++ [w']) : v = v' ∧ w = w' := by
  have := List.append_inj' h rfl
  exact ⟨this.1, by simpa using this.2⟩
theorem UI.step {l u : List Sp} (h : UI l u) {x : Sp} (hx : x.1 < x.2) (h0 : 0 ≤ x.1) (hl : ∀ s, s ∈ l → s.1 ≤ x.1) : UI (l ++ [x]) (ust u x) := by
  rcases snoc_cases u with rfl | ⟨v, w, rfl⟩
  · rw [ust_nil]
    obtain rfl := h.nn rfl
    refine ⟨(fun y hy => by cases List.mem_singleton.1 hy; exact hx), List.pairwise_singleton _ _, (fun a => Iff.rfl), fun s hs => ⟨x, List.mem_singleton.2 rfl, ?_⟩, fun y hy => ⟨y, hy, rfl⟩, rfl, ?_, (fun e => by cases e), (fun y hy => ⟨y, hy, rfl⟩), Nat.le_refl _⟩
    · cases List.mem_singleton.1 hs
      exact ⟨hx, hx, Int.le_refl _, Int.le_refl _⟩
    · intro v w e
      obtain ⟨rfl, rfl⟩ := snoc_inj (v := []) e
      exact ⟨h0, by rw [show tot [x] = tst (0, 0) x from rfl, tst_far h0 hx]⟩
  · have hw := h.right w (by simp)
    have hlen : v.length + 1 ≤ l.length := by have := h.len; simpa using this
    have hlow : w.1 ≤ x.1 := by
      obtain ⟨s, hs, e⟩ := h.low w (by simp)
      rw [← e]; exact hl s hs
    have hr := List.pairwise_append.1 h.rise
    obtain ⟨t1, t2⟩ := h.top v w rfl
    have tw : tot (v ++ [w]) = ((tot v).1 + (w.2 - w.1), w.2) := by rw [tot_snoc, tst_far t1 hw]
    rw [ust_snoc]
    split
    · rename_i hc
      have hw' : w.1 < max w.2 x.2 := by omega
      have t3 : tot (v ++ [(w.1, max w.2 x.2)]) = ((tot v).1 + (max w.2 x.2 - w.1), max w.2 x.2) := by rw [tot_snoc]; exact tst_far t1 hw'
      refine ⟨?_, ?_, ?_, ?_, ?_, ?_, ?_, (fun e => by simp at e), ?_, by simp; omega⟩
      · intro y hy
        rcases List.mem_append.1 hy with hy | hy
        · exact h.right y (by simp [hy])
        · cases List.mem_singleton.1 hy; exact hw'
      · refine List.pairwise_append.2 ⟨hr.1, List.pairwise_singleton _ _, fun a ha b hb => ?_⟩
        cases List.mem_singleton.1 hb
        exact hr.2.2 a ha w (by simp)
      · intro a
        rw [Hs_snoc, Hs_snoc, ← h.cov a, Hs_snoc]
        show _ ∨ (w.1 ≤ a ∧ a < max w.2 x.2) ↔ _
        constructor
        · rintro (q | q)
          · exact .inl (.inl q)
          · by_cases q2 : a < w.2
            · exact .inl (.inr ⟨q.1, q2⟩)
            · exact .inr (by omega)
        · rintro ((q | q) | q)
          · exact .inl q
          · exact .inr (by omega)
          · exact .inr (by omega)
      · intro s hs
        rcases List.mem_append.1 hs with hs | hs
        · obtain ⟨y, hy, hi⟩ := h.ins s hs
          rcases List.mem_append.1 hy with hy | hy
          · exact ⟨y, by simp [hy], hi⟩
          · cases List.mem_singleton.1 hy
            exact ⟨(w.1, max w.2 x.2), by simp, hi.1, hw', hi.2.2.1, by have := hi.2.2.2; show s.2 ≤ max w.2 x.2; omega⟩
        · cases List.mem_singleton.1 hs
          exact ⟨(w.1, max w.2 x.2), by simp, hx, hw', hlow, by show x.2 ≤ max w.2 x.2; omega⟩
      · intro y hy
        rcases List.mem_append.1 hy with hy | hy
        · obtain ⟨s, hs, e⟩ := h.low y (by simp [hy])
          exact ⟨s, by simp [hs], e⟩
        · cases List.mem_singleton.1 hy
          obtain ⟨s, hs, e⟩ := h.low w (by simp)
          exact ⟨s, by simp [hs], e⟩
      · rw [t3, tot_snoc, ← h.same, tw]
        unfold tst
        simp only
        split
        · rw [Int.max_eq_right hc, Int.max_eq_right (by omega : w.2 ≤ x.2)]
          congr 1
          omega
        · rw [Int.max_eq_left (by omega : x.2 ≤ w.2)]
      · intro v' w' e
        obtain ⟨rfl, rfl⟩ := snoc_inj e
        exact ⟨t1, by rw [t3]⟩
      · intro y hy
        rcases List.mem_append.1 hy with hy | hy
        · obtain ⟨s, hs, e⟩ := h.high y (by simp [hy])
          exact ⟨s, by simp [hs], e⟩
        · cases List.mem_singleton.1 hy
          show ∃ s, s ∈ l ++ [x] ∧ s.2 = max w.2 x.2
          by_cases hc2 : w.2 ≤ x.2
          · exact ⟨x, by simp, by rw [Int.max_eq_right hc2]⟩
          · obtain ⟨s, hs, e⟩ := h.high w (by simp)
            exact ⟨s, by simp [hs], by rw [e, Int.max_eq_left (by omega)]⟩
    · rename_i hc
      have t3 : tot (v ++ [w] ++ [x]) = ((tot (v ++ [w])).1 + (x.2 - x.1), x.2) := by rw [tot_snoc]; exact tst_far (by rw [t2]; omega) hx
      refine ⟨?_, ?_, ?_, ?_, ?_, ?_, ?_, (fun e => by simp at e), ?_, by simp; omega⟩
      · intro y hy
        rcases List.mem_append.1 hy with hy | hy
        · exact h.right y hy
        · cases List.mem_singleton.1 hy; exact hx
      · refine List.pairwise_append.2 ⟨h.rise, List.pairwise_singleton _ _, fun a ha b hb => ?_⟩
        cases List.mem_singleton.1 hb
        rcases List.mem_append.1 ha with ha | ha
        · have := hr.2.2 a ha w (by simp)
          omega
        · cases List.mem_singleton.1 ha; omega
      · intro a
        rw [Hs_snoc, Hs_snoc (l := l), h.cov a]
      · intro s hs
        rcases List.mem_append.1 hs with hs | hs
        · obtain ⟨y, hy, hi⟩ := h.ins s hs
          exact ⟨y, List.mem_append_left _ hy, hi⟩
        · cases List.mem_singleton.1 hs
          exact ⟨x, by simp, hx, hx, Int.le_refl _, Int.le_refl _⟩
      · intro y hy
        rcases List.mem_append.1 hy with hy | hy
        · obtain ⟨s, hs, e⟩ := h.low y hy
          exact ⟨s, List.mem_append_left _ hs, e⟩
        · cases List.mem_singleton.1 hy
          exact ⟨x, by simp, rfl⟩
      · rw [tot_snoc, tot_snoc (l := l), h.same]
      · intro v' w' e
        obtain ⟨rfl, rfl⟩ := snoc_inj e
        exact ⟨by rw [t2]; omega, by rw [t3]⟩
      · intro y hy
        rcases List.mem_append.1 hy with hy | hy
        · obtain ⟨s, hs, e⟩ := h.high y hy
          exact ⟨s, List.mem_append_left _ hs, e⟩
        · cases List.mem_singleton.1 hy
          exact ⟨x, by simp, rfl⟩
theorem un_seg {R : Nat → Sp} {n : Nat} (hs : SortedIn 0 n R) (hr : ∀ i, i < n → (R i).1 < (R i).2) (h0 : ∀ i, i < n → 0 ≤ (R i).1) : ∀ i, i ≤ n → UI (seg R 0 i) (un (seg R 0 i))
  | 0, _ => UI.nil
  | i + 1, hi => by
    rw [seg_succ, un_snoc]
    refine (un_seg hs hr h0 i (by omega)).step (hr i hi) (h0 i hi) fun s hm => ?_
    obtain ⟨j, hj, rfl⟩ := mem_seg.1 hm
    have := hs j i (Nat.zero_le _) (by omega) hi
    rw [le_iff] at this
    omega
theorem rise_ap {u : List Sp} (hr : ∀ x, x ∈ u → x.1 < x.2) (h : u.Pairwise fun x y => x.2 < y.1) : Ap u :=
  ⟨hr, h.imp fun h1 h2 => by have := h2.2.2.2; omega⟩
theorem Hs_flt {E : Nat → Sp} {L : Nat} {a : Int} : Hs (flt (srt E 0 L) L) a ↔ Hs (seg E 0 L) a := by
  constructor
  · rintro ⟨x, hx, h⟩
    exact ⟨x, (seg_srt E L).mem_iff.1 (List.mem_filter.1 hx).1, h⟩
  · rintro ⟨x, hx, h⟩
    exact ⟨x, List.mem_filter.2 ⟨(seg_srt E L).mem_iff.2 hx, rgt_iff.2 (by omega)⟩, h⟩
/-- A list as a stretch. -/
def gt (l : List Sp) : Nat → Sp := fun j => l.getD j (0, 0)
theorem gt_seg (l : List Sp) : seg (gt l) 0 l.length = l := by
  apply List.ext_getElem
  · rw [seg_length]
  · intro j h1 h2
    simp [seg, gt, h2]
theorem gt_of {E : Nat → Sp} {n : Nat} {l : List Sp} (h : seg E 0 n = l) (j : Nat) (hj : j < n) : gt l j = E j := by
  subst h
  simp [gt, seg, hj]
theorem gt_mem {l : List Sp} {i : Nat} (h : i < l.length) : gt l i ∈ l := by
  simp [gt, h]
/-- What rises is sorted and right already. -/
theorem rise_rs {u : List Sp} (hr : ∀ x, x ∈ u → x.1 < x.2) (h : u.Pairwise fun x y => x.2 < y.1) : flt (srt (gt u) 0 u.length) u.length = u := by
  have hs : SortedIn 0 u.length (gt u) := by
    apply of_pairwise
    rw [Nat.sub_zero, gt_seg]
    refine List.Pairwise.imp_of_mem ?_ h
    intro x y hx hy hxy
    have := hr x hx
    exact le_iff.2 (.inl (by omega))
  rw [srt_id hs, flt_all fun j hj => rgt_iff.2 (hr _ (gt_mem hj)), gt_seg]
end Go.Sx.So

end

namespace Go.Sx.S
open Go Go.Sx Go.Proofs Go.RowKit
set_option maxRecDepth 100000
open So
def pre25 (v : V25) : Prop := v.L ≤ v.M ∧ v.L ≤ 30000000000
theorem has1_dec (x : Sp) (a : Int) : f17_0 x.1 x.2 a = decide (x.1 ≤ a ∧ a < x.2) := by
  rw [Bool.eq_iff_iff, decide_eq_true_iff]
  simp only [f17_0, cnd_and, Bool.and_eq_true, decide_eq_true_eq]
theorem l25 {L M : Nat} {a : Int} {F G : Nat → Int} {ob : Obj} (hM : L ≤ M) (hL : L ≤ 30000000000) :
    LT (r25_0 (P25_0.mk a false L (L : Int) M ob F G)) (S25_0.mk 0) ∧
      (fun s : S25_0 => ((L : Int) ≤ s.x9 ∧ ¬ Hs (seg (sp F G) 0 L) a) ∨ (s.x9 < (L : Int) ∧ Hs (seg (sp F G) 0 L) a)) (lastS (r25_0 (P25_0.mk a false L (L : Int) M ob F G)) (S25_0.mk 0)) := by
  refine LT.post (fun s : S25_0 => ∃ i : Nat, s.x9 = i ∧ i ≤ L ∧ ∀ j, j < i → ¬ (F j ≤ a ∧ a < G j))
    (fun s : S25_0 => ((L : Int) ≤ s.x9 ∧ ¬ Hs (seg (sp F G) 0 L) a) ∨ (s.x9 < (L : Int) ∧ Hs (seg (sp F G) 0 L) a)) (fun s : S25_0 => (L - s.x9).toNat) ?_ ?_
  rotate_left
  · exact ⟨0, rfl, Nat.zero_le _, fun j h => absurd h (Nat.not_lt_zero _)⟩
  rintro ⟨x⟩ ⟨i, g1, g2, g3⟩
  simp only at g1
  subst g1
  have w2 : IntKind.i64.wrap ((i : Int) + 1) = ((i + 1 : Nat) : Int) := by rw [wi (by omega) (by omega)]; omega
  have dec : f17_0 (F i) (G i) a = decide (F i ≤ a ∧ a < G i) := has1_dec (sp F G i) a
  simp only [r25_0, e25_0_0, e25_0_2, e25_0_3, e25_0_4, e25_0_6, Tr.ok, Tr.get, w2, Nat.zero_add, Int.toNat_natCast]
  by_cases hc : i < L
  · have hd : cnd (decide ((i : Int) < (L : Int))) false true = false := by rw [decide_eq_true (by omega)]; rfl
    rw [hd, dec]
    refine ⟨⟨(fun e => by cases e), fun _ => ⟨⟨by omega, by omega⟩, by omega, fun _ => trivial, fun _ => trivial⟩⟩, ?_⟩
    by_cases hm : F i ≤ a ∧ a < G i
    · rw [decide_eq_true hm]
      exact .inl ⟨⟨_, _, _, rfl⟩, .inr ⟨by omega, sp F G i, mem_seg.2 ⟨i, hc, rfl⟩, hm⟩⟩
    · rw [decide_eq_false hm]
      refine .inr ⟨_, rfl, ⟨i + 1, rfl, by omega, fun j h1 => ?_⟩, by simp only [w2]; omega⟩
      by_cases hj : j = i
      · subst hj; exact hm
      · exact g3 j (by omega)
  · have hd : cnd (decide ((i : Int) < (L : Int))) false true = true := by rw [decide_eq_false (by omega)]; rfl
    rw [hd]
    refine ⟨⟨fun _ => trivial, (fun e => by cases e)⟩, .inl ⟨⟨_, _, _, rfl⟩, .inl ⟨by omega, ?_⟩⟩⟩
    rintro ⟨x, hx, h⟩
    obtain ⟨j, hj, rfl⟩ := mem_seg.1 hx
    exact g3 j (by omega) h
theorem n25 (v : V25) (h : pre25 v) : (f25 v).ok ∧ (f25 v).get.1 = .bool (decide (Hs (seg (sp v.F v.G) 0 v.L) v.at_)) ∧ HOws (f25 v).get.2.1 [HO.ro 27 2 v.M (fun j => [SV.int .u64 (v.F j), SV.int .u64 (v.G j)]) v.ob] := by
  cases v with
  | mk L a M ob F G =>
  obtain ⟨h1, h2⟩ : L ≤ M ∧ L ≤ 30000000000 := h
  obtain ⟨k1, k2⟩ := l25 (a := a) (F := F) (G := G) (ob := ob) h1 h2
  refine ⟨⟨k1, trivial⟩, ?_, .refl _⟩
  show SV.bool (f25_2 _) = _
  congr 1
  have key : ∀ s : S25_0, (((L : Int) ≤ s.x9 ∧ ¬ Hs (seg (sp F G) 0 L) a) ∨ (s.x9 < (L : Int) ∧ Hs (seg (sp F G) 0 L) a)) →
      cnd (cnd (cnd (decide (s.x9 < (L : Int))) false true) false true) true false = decide (Hs (seg (sp F G) 0 L) a) := by
    intro s k2
    rcases k2 with ⟨a, b⟩ | ⟨a, b⟩
    · rw [decide_eq_false (by omega), decide_eq_false b]; rfl
    · rw [decide_eq_true (by omega), decide_eq_true b]; rfl
  exact key _ k2
noncomputable def f25n (v : V25) : Tr (Fin th.R) := .need (pre25 v) (.leaf (.bool (decide (So.Hs (So.seg (sp v.F v.G) 0 v.L) v.at_)), [.ro 27 2 v.M (fun j => [.int .u64 (v.F j), .int .u64 (v.G j)]) v.ob], []))
theorem s25n : Sound Try.prog th 25 (fnC d25 ofV25 f25n) := fnC_refine s25 fun v h => by
  obtain ⟨hp, _⟩ := h
  obtain ⟨a, b, c⟩ := n25 v hp
  exact ⟨a, b.symm, (qdd25 v).symm, c, by show 1 ≤ 1; decide⟩
structure V25w where
  L : Nat
  at_ : Int
  M : Nat
  F : Nat → Int
  G : Nat → Int
def inj25 (v : V25w) (o : Obj) : V25 := ⟨v.L, v.at_, v.M, o, v.F, v.G⟩
def A25w (v : V25w) : List SV := [.slc 0 2 0 v.L, .int .u64 v.at_]
def H25w (v : V25w) : List (HO th.R) := [.row 27 2 v.M (fun j => [.int .u64 (v.F j), .int .u64 (v.G j)])]
def toV25w (v : V25w) : List (Vl th.R) := [.n v.L, .i v.at_, .n v.M, .c v.F, .c v.G]
def ofV25w : List (Vl th.R) → Option V25w
  | [.n L, .i at_, .n M, .c F, .c G] => some ⟨L, at_, M, F, G⟩
  | _ => none
def d25w : Ft := ⟨[.slc0 0 2, .int .u64], [.rowc 27 [.int .u64, .int .u64]]⟩
noncomputable def f25w (v : V25w) : Tr (Fin th.R) := .need (pre25 (inj25 v (.cells #[] 0))) (.leaf (.bool (decide (So.Hs (So.seg (sp (inj25 v (.cells #[] 0)).F (inj25 v (.cells #[] 0)).G) 0 (inj25 v (.cells #[] 0)).L) (inj25 v (.cells #[] 0)).at_)), [.row 27 2 v.M (fun j => [.int .u64 (v.F j), .int .u64 (v.G j)])], []))
theorem cw25 (v : V25w) (o : Obj) : fnC d25 ofV25 f25n (A25 (inj25 v o)) (H25 (inj25 v o)) = some (.need (∀ i, i < v.M → (fun j => [.int .u64 (v.F j), .int .u64 (v.G j)] : Nat → List SV) i = elC (fun j => [.int .u64 (v.F j), .int .u64 (v.G j)] : Nat → List SV) 0 [.int .u64, .int .u64] i) ((f25n (inj25 v o)).map (fixF (H25 (inj25 v o))))) := by kernel_rfl
theorem s25w : Sound Try.prog th 25 (fnC d25w ofV25w f25w) := by
  refine fnC_direct (T := th) d25w A25w H25w toV25w (by kernel_rfl) (fun v => by kernel_rfl) ?_ ?_ (fun v _ => Nat.le_add_left _ _) (fun v _ n hn _ => ?_)
  · intro l v h
    unfold ofV25w at h
    split at h
    · cases h; rfl
    · cases h
  · intro v hok K w0 ρ w vargs I hr
    obtain ⟨hp, _⟩ := hok
    exact ro_row (tl := []) (val := .bool (decide (So.Hs (So.seg (sp (inj25 v (.cells #[] 0)).F (inj25 v (.cells #[] 0)).G) 0 (inj25 v (.cells #[] 0)).L) (inj25 v (.cells #[] 0)).at_))) (fun o K w0 ρ w vargs I hr => fnC_out s25n (cw25 v o) ⟨fun i _ => rfl, hp, trivial⟩ I hr) I hr
  · have hn : n < 1 := hn
    have : n = 0 := by omega
    subst this; rfl
noncomputable def nice25n : List (Nat × CF th.R) := (25, lift (orC (fnC d25 ofV25 f25n) (fnC d25w ofV25w f25w))) :: nice23n
theorem nok25n : NiceOk Try.prog th nice25n := ⟨lift_sound (orC_sound s25n s25w), nok23n⟩
end Go.Sx.S

namespace Go.Sx.S
open Go Go.Sx Go.Proofs Go.RowKit
set_option maxRecDepth 100000
open So
def pre26 (v : V26) : Prop := v.L ≤ v.M ∧ v.L ≤ 30000000000 ∧ ∀ i, i < v.L → 0 ≤ v.F i ∧ v.G i < 18446744073709551616
theorem u64w {x : Int} (h1 : 0 ≤ x) (h2 : x < 18446744073709551616) : IntKind.u64.wrap x = x := wrap_u64_id h1 h2
theorem l26 {n L M : Nat} {F G : Nat → Int} {ob : Obj} {R : Nat → Sp} (hn : n ≤ L) (hL : L ≤ 30000000000) (hr : ∀ i, i < n → (R i).1 < (R i).2) (hb : ∀ i, i < n → 0 ≤ (R i).1 ∧ (R i).2 < 18446744073709551616) :
    LT (r26_0 (P26_0.mk n (n : Int) M ob F G L (fun j => (R j).1) fun j => (R j).2)) (S26_0.mk 0 0 0) ∧
      (fun s : S26_0 => s.x3 = (tot (seg R 0 n)).1) (lastS (r26_0 (P26_0.mk n (n : Int) M ob F G L (fun j => (R j).1) fun j => (R j).2)) (S26_0.mk 0 0 0)) := by
  refine LT.post (fun s : S26_0 => ∃ i : Nat, s.x10 = i ∧ i ≤ n ∧ (s.x3, s.x4) = tot (seg R 0 i) ∧ 0 ≤ s.x3 ∧ s.x3 ≤ s.x4 ∧ s.x4 < 18446744073709551616)
    (fun s : S26_0 => s.x3 = (tot (seg R 0 n)).1) (fun s : S26_0 => (n - s.x10).toNat) ?_ ?_
  rotate_left
  · exact ⟨0, rfl, Nat.zero_le _, rfl, Int.le_refl _, Int.le_refl _, by decide⟩
  rintro ⟨t, e, x⟩ ⟨i, g1, g2, g3, g4, g5, g6⟩
  simp only at g1 g3 g4 g5 g6
  subst g1
  have w2 : IntKind.i64.wrap ((i : Int) + 1) = ((i + 1 : Nat) : Int) := by rw [wi (by omega) (by omega)]; omega
  simp only [r26_0, e26_0_0, e26_0_2, e26_0_3, e26_0_5, e26_0_6, e26_0_7, Tr.ok, Tr.get, w2, Nat.zero_add, Int.toNat_natCast]
  by_cases hc : i < n
  · have hd : cnd (decide ((i : Int) < (n : Int))) false true = false := by rw [decide_eq_true (by omega)]; rfl
    have b1 := hr i hc
    have b2 := hb i hc
    have st : tot (seg R 0 (i + 1)) = tst (t, e) (R i) := by rw [seg_succ, tot_snoc, ← g3]
    rw [hd]
    refine ⟨⟨(fun e => by cases e), fun _ => ⟨⟨by omega, by omega⟩, by omega, trivial⟩⟩, .inr ⟨_, rfl, ⟨i + 1, rfl, by omega, ?_⟩, by simp only [w2]; omega⟩⟩
    rw [st]
    simp only [tst, cndB, decide_eq_true_eq]
    by_cases hh : (R i).2 > e
    · rw [if_pos hh, if_pos hh, if_pos hh]
      have em : (if e > (R i).1 then e else (R i).1) = max (R i).1 e := by
        split
        · rw [Int.max_eq_right (by omega)]
        · rw [Int.max_eq_left (by omega)]
      have m1 : (R i).1 ≤ max (R i).1 e := Int.le_max_left _ _
      have m2 : e ≤ max (R i).1 e := Int.le_max_right _ _
      have m3 : max (R i).1 e ≤ (R i).2 := by omega
      have w5 : IntKind.u64.wrap ((R i).2 - max (R i).1 e) = (R i).2 - max (R i).1 e := u64w (by omega) (by omega)
      rw [em, w5, u64w (by omega) (by omega)]
      exact ⟨rfl, by omega, by omega, by omega⟩
    · rw [if_neg hh, if_neg hh, if_neg hh]
      exact ⟨rfl, g4, g5, g6⟩
  · have hd : cnd (decide ((i : Int) < (n : Int))) false true = true := by rw [decide_eq_false (by omega)]; rfl
    have : i = n := by omega
    subst this
    rw [hd]
    exact ⟨⟨fun _ => trivial, (fun e => by cases e)⟩, .inl ⟨⟨_, _, _, rfl⟩, congrArg Prod.fst g3⟩⟩
theorem rs_mem {E : Nat → Sp} {L : Nat} {p : Sp → Prop} (h : ∀ i, i < L → p (E i)) (i : Nat) (hi : i < (RS E L).length) : p (RSr E L i) := by
  have h1 : RSr E L i ∈ RS E L := by
    have := rs_seg (E := E) (R := RSr E L) (L := L) rfl rfl
    have h2 : RSr E L i ∈ seg (RSr E L) 0 (RS E L).length := mem_seg.2 ⟨i, hi, rfl⟩
    rw [show seg (RSr E L) 0 (RS E L).length = RS E L from this] at h2
    exact h2
  have h2 : RSr E L i ∈ seg (srt E 0 L) 0 L := (List.mem_filter.1 h1).1
  obtain ⟨j, hj, e⟩ := mem_seg.1 ((seg_srt E L).mem_iff.1 h2)
  rw [← e]
  exact h j hj
theorem n26 (v : V26) (h : pre26 v) : (f26 v).ok ∧ (f26 v).get.1 = .int .u64 (tot (RS (sp v.F v.G) v.L)).1 ∧ HOws (f26 v).get.2.1 [HO.ro 27 2 v.M (fun j => [SV.int .u64 (v.F j), SV.int .u64 (v.G j)]) v.ob] := by
  obtain ⟨L, M, ob, F, G⟩ := v
  obtain ⟨h1, h2, h3⟩ : L ≤ M ∧ L ≤ 30000000000 ∧ ∀ i, i < L → 0 ≤ F i ∧ G i < 18446744073709551616 := h
  have hn : (RS (sp F G) L).length ≤ L := flt_length _ _
  obtain ⟨k1, k2⟩ := l26 (M := M) (F := F) (G := G) (ob := ob) (R := RSr (sp F G) L) hn h2 (rs_right rfl rfl) (rs_mem (p := fun x => 0 ≤ x.1 ∧ x.2 < 18446744073709551616) h3)
  refine ⟨⟨⟨h1, h2⟩, k1, trivial⟩, ?_, .refl _⟩
  refine congrArg (SV.int .u64) (k2.trans ?_)
  exact congrArg (fun l => (tot l).1) (rs_seg (E := sp F G) (R := RSr (sp F G) L) rfl rfl)
noncomputable def f26n (v : V26) : Tr (Fin th.R) := .need (pre26 v) (.leaf (.int .u64 (So.tot (RS (sp v.F v.G) v.L)).1, [.ro 27 2 v.M (fun j => [.int .u64 (v.F j), .int .u64 (v.G j)]) v.ob], []))
theorem s26n : Sound Try.prog th 26 (fnC d26 ofV26 f26n) := fnC_refine s26 fun v h => by
  obtain ⟨hp, _⟩ := h
  obtain ⟨a, b, c⟩ := n26 v hp
  exact ⟨a, b.symm, (qdd26 v).symm, c, by show 1 ≤ 1; decide⟩
structure V26w where
  L : Nat
  M : Nat
  F : Nat → Int
  G : Nat → Int
def inj26 (v : V26w) (o : Obj) : V26 := ⟨v.L, v.M, o, v.F, v.G⟩
def A26w (v : V26w) : List SV := [.slc 0 2 0 v.L]
def H26w (v : V26w) : List (HO th.R) := [.row 27 2 v.M (fun j => [.int .u64 (v.F j), .int .u64 (v.G j)])]
def toV26w (v : V26w) : List (Vl th.R) := [.n v.L, .n v.M, .c v.F, .c v.G]
def ofV26w : List (Vl th.R) → Option V26w
  | [.n L, .n M, .c F, .c G] => some ⟨L, M, F, G⟩
  | _ => none
def d26w : Ft := ⟨[.slc0 0 2], [.rowc 27 [.int .u64, .int .u64]]⟩
noncomputable def f26w (v : V26w) : Tr (Fin th.R) := .need (pre26 (inj26 v (.cells #[] 0))) (.leaf (.int .u64 (So.tot (RS (sp (inj26 v (.cells #[] 0)).F (inj26 v (.cells #[] 0)).G) (inj26 v (.cells #[] 0)).L)).1, [.row 27 2 v.M (fun j => [.int .u64 (v.F j), .int .u64 (v.G j)])], []))
theorem cw26 (v : V26w) (o : Obj) : fnC d26 ofV26 f26n (A26 (inj26 v o)) (H26 (inj26 v o)) = some (.need (∀ i, i < v.M → (fun j => [.int .u64 (v.F j), .int .u64 (v.G j)] : Nat → List SV) i = elC (fun j => [.int .u64 (v.F j), .int .u64 (v.G j)] : Nat → List SV) 0 [.int .u64, .int .u64] i) ((f26n (inj26 v o)).map (fixF (H26 (inj26 v o))))) := by kernel_rfl
theorem s26w : Sound Try.prog th 26 (fnC d26w ofV26w f26w) := by
  refine fnC_direct (T := th) d26w A26w H26w toV26w (by kernel_rfl) (fun v => by kernel_rfl) ?_ ?_ (fun v _ => Nat.le_add_left _ _) (fun v _ n hn _ => ?_)
  · intro l v h
    unfold ofV26w at h
    split at h
    · cases h; rfl
    · cases h
  · intro v hok K w0 ρ w vargs I hr
    obtain ⟨hp, _⟩ := hok
    exact ro_row (tl := []) (val := .int .u64 (So.tot (RS (sp (inj26 v (.cells #[] 0)).F (inj26 v (.cells #[] 0)).G) (inj26 v (.cells #[] 0)).L)).1) (fun o K w0 ρ w vargs I hr => fnC_out s26n (cw26 v o) ⟨fun i _ => rfl, hp, trivial⟩ I hr) I hr
  · have hn : n < 1 := hn
    have : n = 0 := by omega
    subst this; rfl
noncomputable def nice26n : List (Nat × CF th.R) := (26, lift (orC (fnC d26 ofV26 f26n) (fnC d26w ofV26w f26w))) :: nice25n
theorem nok26n : NiceOk Try.prog th nice26n := ⟨lift_sound (orC_sound s26n s26w), nok25n⟩
end Go.Sx.S

namespace Go.Sx.S
open Go Go.Sx Go.Proofs Go.RowKit
set_option maxRecDepth 100000
open So
def pre24 (v : V24) : Prop := v.L ≤ v.M ∧ v.L ≤ 30000000000
noncomputable def UN (E : Nat → Sp) (L : Nat) : List Sp := un (RS E L)
theorem l24 {n L M : Nat} {F G F' G' : Nat → Int} {ob : Obj} {R : Nat → Sp} (hn : n ≤ L) (hL : L ≤ 30000000000) :
    LT (r24_0 (P24_0.mk n (n : Int) M ob F G L (fun j => (R j).fst) fun j => (R j).snd)) (S24_0.mk 0 0 0 F' G') ∧
      (fun s : S24_0 => s.N2 = s.n3 ∧ seg (sp s.F2_0 s.F2_1) 0 s.n3 = un (seg R 0 n)) (lastS (r24_0 (P24_0.mk n (n : Int) M ob F G L (fun j => (R j).fst) fun j => (R j).snd)) (S24_0.mk 0 0 0 F' G')) := by
  refine LT.post (fun s : S24_0 => ∃ i : Nat, s.x10 = i ∧ i ≤ n ∧ s.N2 = s.n3 ∧ s.n3 ≤ i ∧ seg (sp s.F2_0 s.F2_1) 0 s.n3 = un (seg R 0 i))
    (fun s : S24_0 => s.N2 = s.n3 ∧ seg (sp s.F2_0 s.F2_1) 0 s.n3 = un (seg R 0 n)) (fun s : S24_0 => (n - s.x10).toNat) ?_ ?_
  rotate_left
  · exact ⟨0, rfl, Nat.zero_le _, rfl, Nat.le_refl _, rfl⟩
  rintro ⟨m, x, N2, A, B⟩ ⟨i, g1, g2, g3, g4, g5⟩
  simp only at g1 g3 g4 g5
  subst g1
  have w2 : IntKind.i64.wrap ((i : Int) + 1) = ((i + 1 : Nat) : Int) := by rw [wi (by omega) (by omega)]; omega
  simp only [r24_0, e24_0_0, e24_0_2, e24_0_3, e24_0_4, e24_0_5, e24_0_6, e24_0_7, e24_0_9, e24_0_10, e24_0_11, e24_0_13, e24_0_14, e24_0_15, Tr.ok, Tr.get, w2, Nat.zero_add, Int.toNat_natCast]
  by_cases hc : i < n
  · have hd : cnd (decide ((i : Int) < (n : Int))) false true = false := by rw [decide_eq_true (by omega)]; rfl
    have su : un (seg R 0 (i + 1)) = ust (seg (sp A B) 0 m) (R i) := by rw [seg_succ, un_snoc, ← g5]
    have push : seg (sp (fun j => cnd (j.blt m) (A j) (R i).1) fun j => cnd (j.blt m) (B j) (R i).2) 0 (m + 1) = seg (sp A B) 0 m ++ [R i] := by
      rw [seg_succ]
      congr 1
      · exact seg_congr fun j hj => by simp [sp, cndB, bltT, hj]
      · simp [sp, cndB, bltT]
    rw [hd]
    by_cases h0 : 0 < m
    · obtain ⟨k, rfl⟩ : ∃ k, m = k + 1 := ⟨m - 1, by omega⟩
      have w1 : IntKind.i64.wrap (((k + 1 : Nat) : Int) - 1) = (k : Int) := by rw [wi (by omega) (by omega)]; omega
      rw [seg_succ (sp A B) k, ust_snoc] at su
      rw [decide_eq_true (show ((k + 1 : Nat) : Int) > 0 by omega), w1]
      simp only [Int.toNat_natCast]
      by_cases hm : (R i).1 ≤ B k
      · rw [decide_eq_true hm]
        refine ⟨⟨(fun e => by cases e), fun _ => ⟨⟨by omega, by omega⟩, by omega, ⟨fun _ => ⟨by omega, by omega⟩, fun _ => by omega⟩, fun _ => ?_, (fun e => by cases e), fun _ => trivial, fun _ => trivial⟩⟩, .inr ⟨_, rfl, ⟨i + 1, rfl, by omega, g3, by show k + 1 ≤ i + 1; omega, ?_⟩, by simp only [w2]; omega⟩⟩
        · (repeat' apply And.intro) <;> first | trivial | omega | (intros; omega)
        · rw [su, if_pos (show (R i).1 ≤ (sp A B k).2 from hm)]
          show seg _ 0 (k + 1) = _
          rw [seg_succ]
          congr 1
          · exact seg_congr fun j hj => by
              have : j ≠ k := by omega
              simp [sp, cndB, this]
          · have : (if (R i).2 > B k then (R i).2 else B k) = max (B k) (R i).2 := by
              split
              · rw [Int.max_eq_right (by omega)]
              · rw [Int.max_eq_left (by omega)]
            simp [sp, cndB, this]
      · rw [decide_eq_false hm]
        refine ⟨⟨(fun e => by cases e), fun _ => ⟨⟨by omega, by omega⟩, by omega, ⟨fun _ => ⟨by omega, by omega⟩, fun _ => by omega⟩, (fun e => by cases e), fun _ => ?_, fun _ => trivial, fun _ => trivial⟩⟩, .inr ⟨_, rfl, ⟨i + 1, rfl, by omega, rfl, by show k + 1 + 1 ≤ i + 1; omega, ?_⟩, by simp only [w2]; omega⟩⟩
        · (repeat' apply And.intro) <;> first | trivial | omega
        · rw [su, if_neg (show ¬ (R i).1 ≤ (sp A B k).2 from hm), ← seg_succ]; exact push
    · have : m = 0 := by omega
      subst this
      rw [decide_eq_false (show ¬ ((0:Nat) : Int) > 0 by omega)]
      refine ⟨⟨(fun e => by cases e), fun _ => ⟨⟨by omega, by omega⟩, by omega, ⟨(fun e => by cases e), (fun e => by cases e)⟩, (fun e => by cases e), fun _ => ?_, fun _ => trivial, fun _ => trivial⟩⟩, .inr ⟨_, rfl, ⟨i + 1, rfl, by omega, rfl, by show 0 + 1 ≤ i + 1; omega, ?_⟩, by simp only [w2]; omega⟩⟩
      · (repeat' apply And.intro) <;> first | trivial | omega
      · rw [su]; exact push
  · have hd : cnd (decide ((i : Int) < (n : Int))) false true = true := by rw [decide_eq_false (by omega)]; rfl
    have : i = n := by omega
    subst this
    rw [hd]
    exact ⟨⟨fun _ => trivial, (fun e => by cases e)⟩, .inl ⟨⟨_, _, _, rfl⟩, g3, g5⟩⟩
theorem n24 (v : V24) (h : pre24 v) : (f24 v).ok ∧ (f24 v).get.1 = .slc 2 2 0 (UN (sp v.F v.G) v.L).length ∧
    HOws (f24 v).get.2.1 [HO.ro 27 2 v.M (fun j => [SV.int .u64 (v.F j), SV.int .u64 (v.G j)]) v.ob, rowQ v.L (RSr (sp v.F v.G) v.L), rowQ (UN (sp v.F v.G) v.L).length (gt (UN (sp v.F v.G) v.L))] := by
  obtain ⟨L, M, ob, F, G⟩ := v
  obtain ⟨h1, h2⟩ : L ≤ M ∧ L ≤ 30000000000 := h
  have hn : (RS (sp F G) L).length ≤ L := flt_length _ _
  obtain ⟨k1, k2, k3⟩ := l24 (M := M) (F := F) (G := G) (F' := colI (fun j => []) 0) (G' := colI (fun j => []) 1) (ob := ob) (R := RSr (sp F G) L) hn h2
  have k3 : seg (sp (f24z0 (V24.mk L M ob F G)).F2_0 (f24z0 (V24.mk L M ob F G)).F2_1) 0 (f24z0 (V24.mk L M ob F G)).n3 = UN (sp F G) L := k3.trans (congrArg un (rs_seg (E := sp F G) (R := RSr (sp F G) L) rfl rfl))
  have k4 : (f24z0 (V24.mk L M ob F G)).n3 = (UN (sp F G) L).length := by rw [← k3, seg_length]
  have k2 : (f24z0 (V24.mk L M ob F G)).N2 = (UN (sp F G) L).length := Eq.trans k2 k4
  refine ⟨⟨⟨h1, h2⟩, k1, trivial⟩, congrArg (SV.slc 2 2 0) k4, ?_⟩
  show HOws [_, _, HO.row 27 2 (f24z0 (V24.mk L M ob F G)).N2 _] _
  rw [k2]
  refine .cons (.refl _) (.cons (.refl _) (.cons (.row fun i hi => ?_) .nil))
  have := gt_of k3 i (by omega)
  show [SV.int .u64 _, SV.int .u64 _] = [SV.int .u64 _, SV.int .u64 _]
  rw [this]
  rfl
noncomputable def f24n (v : V24) : Tr (Fin th.R) := .need (pre24 v) (.leaf (.slc 2 2 0 (UN (sp v.F v.G) v.L).length, [.ro 27 2 v.M (fun j => [.int .u64 (v.F j), .int .u64 (v.G j)]) v.ob, rowQ v.L (RSr (sp v.F v.G) v.L), rowQ (UN (sp v.F v.G) v.L).length (gt (UN (sp v.F v.G) v.L))], []))
theorem s24n : Sound Try.prog th 24 (fnC d24 ofV24 f24n) := fnC_refine s24 fun v h => by
  obtain ⟨hp, _⟩ := h
  obtain ⟨a, b, c⟩ := n24 v hp
  exact ⟨a, b.symm, (qdd24 v).symm, c, by show 1 ≤ 3; decide⟩
structure V24w where
  L : Nat
  M : Nat
  F : Nat → Int
  G : Nat → Int
def inj24 (v : V24w) (o : Obj) : V24 := ⟨v.L, v.M, o, v.F, v.G⟩
def A24w (v : V24w) : List SV := [.slc 0 2 0 v.L]
def H24w (v : V24w) : List (HO th.R) := [.row 27 2 v.M (fun j => [.int .u64 (v.F j), .int .u64 (v.G j)])]
def toV24w (v : V24w) : List (Vl th.R) := [.n v.L, .n v.M, .c v.F, .c v.G]
def ofV24w : List (Vl th.R) → Option V24w
  | [.n L, .n M, .c F, .c G] => some ⟨L, M, F, G⟩
  | _ => none
def d24w : Ft := ⟨[.slc0 0 2], [.rowc 27 [.int .u64, .int .u64]]⟩
noncomputable def f24w (v : V24w) : Tr (Fin th.R) := .need (pre24 (inj24 v (.cells #[] 0))) (.leaf (.slc 2 2 0 (UN (sp (inj24 v (.cells #[] 0)).F (inj24 v (.cells #[] 0)).G) (inj24 v (.cells #[] 0)).L).length, [.row 27 2 v.M (fun j => [.int .u64 (v.F j), .int .u64 (v.G j)]), rowQ (inj24 v (.cells #[] 0)).L (RSr (sp (inj24 v (.cells #[] 0)).F (inj24 v (.cells #[] 0)).G) (inj24 v (.cells #[] 0)).L), rowQ (UN (sp (inj24 v (.cells #[] 0)).F (inj24 v (.cells #[] 0)).G) (inj24 v (.cells #[] 0)).L).length (gt (UN (sp (inj24 v (.cells #[] 0)).F (inj24 v (.cells #[] 0)).G) (inj24 v (.cells #[] 0)).L))], []))
theorem cw24 (v : V24w) (o : Obj) : fnC d24 ofV24 f24n (A24 (inj24 v o)) (H24 (inj24 v o)) = some (.need (∀ i, i < v.M → (fun j => [.int .u64 (v.F j), .int .u64 (v.G j)] : Nat → List SV) i = elC (fun j => [.int .u64 (v.F j), .int .u64 (v.G j)] : Nat → List SV) 0 [.int .u64, .int .u64] i) ((f24n (inj24 v o)).map (fixF (H24 (inj24 v o))))) := by kernel_rfl
theorem s24w : Sound Try.prog th 24 (fnC d24w ofV24w f24w) := by
  refine fnC_direct (T := th) d24w A24w H24w toV24w (by kernel_rfl) (fun v => by kernel_rfl) ?_ ?_ (fun v _ => Nat.le_add_left _ _) (fun v _ n hn _ => ?_)
  · intro l v h
    unfold ofV24w at h
    split at h
    · cases h; rfl
    · cases h
  · intro v hok K w0 ρ w vargs I hr
    obtain ⟨hp, _⟩ := hok
    exact ro_row (tl := [rowQ (inj24 v (.cells #[] 0)).L (RSr (sp (inj24 v (.cells #[] 0)).F (inj24 v (.cells #[] 0)).G) (inj24 v (.cells #[] 0)).L), rowQ (UN (sp (inj24 v (.cells #[] 0)).F (inj24 v (.cells #[] 0)).G) (inj24 v (.cells #[] 0)).L).length (gt (UN (sp (inj24 v (.cells #[] 0)).F (inj24 v (.cells #[] 0)).G) (inj24 v (.cells #[] 0)).L))]) (val := .slc 2 2 0 (UN (sp (inj24 v (.cells #[] 0)).F (inj24 v (.cells #[] 0)).G) (inj24 v (.cells #[] 0)).L).length) (fun o K w0 ρ w vargs I hr => fnC_out s24n (cw24 v o) ⟨fun i _ => rfl, hp, trivial⟩ I hr) I hr
  · have hn : n < 1 := hn
    have : n = 0 := by omega
    subst this; rfl
noncomputable def nice24n : List (Nat × CF th.R) := (24, lift (orC (fnC d24 ofV24 f24n) (fnC d24w ofV24w f24w))) :: nice26n
theorem nok24n : NiceOk Try.prog th nice24n := ⟨lift_sound (orC_sound s24n s24w), nok26n⟩
end Go.Sx.S

namespace Go.Sx.S
open Go Go.Sx Go.Proofs Go.RowKit
set_option maxRecDepth 100000
structure V30 where
  L : Nat
  gf : Int
  gt_ : Int
  M : Nat
  ob : Obj
  F : Nat → Int
  G : Nat → Int
def A30 (v : V30) : List SV := [.slc 0 2 0 v.L, .agg [.int .u64 v.gf, .int .u64 v.gt_]]
def H30 (v : V30) : List (HO th.R) := [.ro 27 2 v.M (fun j => [.int .u64 (v.F j), .int .u64 (v.G j)]) v.ob]
def toV30 (v : V30) : List (Vl th.R) := [.n v.L, .i v.gf, .i v.gt_, .n v.M, .o v.ob, .c v.F, .c v.G]
def ofV30 : List (Vl th.R) → Option V30
  | [.n L, .i gf, .i gt_, .n M, .o ob, .c F, .c G] => some ⟨L, gf, gt_, M, ob, F, G⟩
  | _ => none
def d30 : Ft := ⟨[.slc0 0 2, .agg [.int .u64, .int .u64]], [.roc 27 [.int .u64, .int .u64]]⟩
structure P30_0 where
  n11 : Nat
  x12 : Int
  N0 : Nat
  O0 : Obj
  F0_0 : Nat → Int
  F0_1 : Nat → Int
  xh1_0 : Int
  xh1_1 : Int
  N2 : Nat
  F2_0 : Nat → Int
  F2_1 : Nat → Int
structure S30_0 where
  n5 : Nat
  x13 : Int
  N3 : Nat
  F3_0 : Nat → Int
  F3_1 : Nat → Int
instance : Inhabited S30_0 := ⟨⟨0, 0, 0, fun _ => 0, fun _ => 0⟩⟩
def I30_0 (p : P30_0) (s : S30_0) : St th.R := ⟨[none, none, none, some (.ptr 1 0), none, some (.slc 3 2 0 s.n5), none, none, none, none, none, some (.slc 2 2 0 p.n11), some (.int .i64 p.x12), some (.int .i64 s.x13), none, none, none, none, none, none, none, none, none, none, none, none, none, none, none, none, none, none, none, none, none, none, none, none, none, none, none, none, none, none, none, none, none, none, none, none], [.ro 27 2 p.N0 (fun j => [.int .u64 (p.F0_0 j), .int .u64 (p.F0_1 j)]) p.O0, .cells 27 [.int .u64 p.xh1_0, .int .u64 p.xh1_1], .row 27 2 p.N2 (fun j => [.int .u64 (p.F2_0 j), .int .u64 (p.F2_1 j)]), .row 27 2 s.N3 (fun j => [.int .u64 (s.F3_0 j), .int .u64 (s.F3_1 j)])], [], []⟩
def d30_0 : Lp := ⟨⟨50, [(3, .ptr 1 0), (5, .slc0 3 2), (11, .slc0 2 2), (12, .int .i64), (13, .int .i64)], [.roc 27 [.int .u64, .int .u64], .cells 27 [.int .u64, .int .u64], .rowc 27 [.int .u64, .int .u64], .rowc 27 [.int .u64, .int .u64]]⟩, [⟨5, 27, 2⟩], 3, [], [5], []⟩
def toV30_0 (p : P30_0) (s : S30_0) : List (Vl th.R) := [.n s.n5, .n p.n11, .i p.x12, .i s.x13, .n p.N0, .o p.O0, .c p.F0_0, .c p.F0_1, .i p.xh1_0, .i p.xh1_1, .n p.N2, .c p.F2_0, .c p.F2_1, .n s.N3, .c s.F3_0, .c s.F3_1]
def ofV30_0 : List (Vl th.R) → Option (P30_0 × S30_0)
  | [.n n5, .n n11, .i x12, .i x13, .n N0, .o O0, .c F0_0, .c F0_1, .i xh1_0, .i xh1_1, .n N2, .c F2_0, .c F2_1, .n N3, .c F3_0, .c F3_1] => some (⟨n11, x12, N0, O0, F0_0, F0_1, xh1_0, xh1_1, N2, F2_0, F2_1⟩, ⟨n5, x13, N3, F3_0, F3_1⟩)
  | _ => none
noncomputable def e30_0_0 (p : P30_0) (s : S30_0) : (Bool) := cnd (decide (s.x13 < p.x12)) false true
noncomputable def e30_0_1 (p : P30_0) (s : S30_0) : (Prop) := (∀ (i : Nat), scpL (0:Nat) ((fun (j : Nat) => [SV.int IntKind.u64 (p.F0_0 j), SV.int IntKind.u64 (p.F0_1 j)]) i) = true) ∧ (∀ (i : Nat), scpL (0:Nat) ((fun (j : Nat) => [SV.int IntKind.u64 (p.F2_0 j), SV.int IntKind.u64 (p.F2_1 j)]) i) = true) ∧ ∀ (i : Nat), scpL (0:Nat) ((fun (j : Nat) => [SV.int IntKind.u64 (s.F3_0 j), SV.int IntKind.u64 (s.F3_1 j)]) i) = true
noncomputable def e30_0_2 (p : P30_0) (s : S30_0) : (Prop) := (0 : Int) ≤ s.x13 ∧ s.x13 < (↑p.n11 : Int)
noncomputable def e30_0_3 (p : P30_0) (s : S30_0) : (Prop) := (0:Nat) + s.x13.toNat < p.N2
noncomputable def e30_0_4 (p : P30_0) (s : S30_0) : (Prop) := (!f13_0 (p.F2_0 ((0:Nat) + s.x13.toNat)) (p.F2_1 ((0:Nat) + s.x13.toNat)) p.xh1_0 p.xh1_1) = true → (0:Nat) = (0:Nat) ∧ s.n5 ≤ s.N3 ∧ (1 : Nat) ≤ (1 : Nat) ∧ (s.n5 + (1 : Nat)) * (4096 : Nat) ≤ (140737488355328 : Nat) ∧ s.n5 + (1 : Nat) ≤ (9223372036854775807 : Nat)
noncomputable def e30_0_5 (p : P30_0) (s : S30_0) : (Prop) := (!f13_0 (p.F2_0 ((0:Nat) + s.x13.toNat)) (p.F2_1 ((0:Nat) + s.x13.toNat)) p.xh1_0 p.xh1_1) = false → (0 : Int) ≤ (0 : Int) ∧ (0 : Int) < (2 : Int)
noncomputable def e30_0_6 (p : P30_0) (s : S30_0) : (Prop) := (!f13_0 (p.F2_0 ((0:Nat) + s.x13.toNat)) (p.F2_1 ((0:Nat) + s.x13.toNat)) p.xh1_0 p.xh1_1) = false → (0:Nat) < (2 : Nat)
noncomputable def e30_0_7 (p : P30_0) (s : S30_0) : (Prop) := (!f13_0 (p.F2_0 ((0:Nat) + s.x13.toNat)) (p.F2_1 ((0:Nat) + s.x13.toNat)) p.xh1_0 p.xh1_1) = false → f11_0 (p.F2_0 ((0:Nat) + s.x13.toNat)) p.xh1_0 = true → (0:Nat) = (0:Nat) ∧ s.n5 ≤ s.N3 ∧ (1 : Nat) ≤ (1 : Nat) ∧ (s.n5 + (1 : Nat)) * (4096 : Nat) ≤ (140737488355328 : Nat) ∧ s.n5 + (1 : Nat) ≤ (9223372036854775807 : Nat)
noncomputable def e30_0_8 (p : P30_0) (s : S30_0) : (Prop) := (!f13_0 (p.F2_0 ((0:Nat) + s.x13.toNat)) (p.F2_1 ((0:Nat) + s.x13.toNat)) p.xh1_0 p.xh1_1) = false → f11_0 (p.F2_0 ((0:Nat) + s.x13.toNat)) p.xh1_0 = true → (0 : Int) ≤ (1 : Int) ∧ (1 : Int) < (2 : Int)
noncomputable def e30_0_9 (p : P30_0) (s : S30_0) : (Prop) := (!f13_0 (p.F2_0 ((0:Nat) + s.x13.toNat)) (p.F2_1 ((0:Nat) + s.x13.toNat)) p.xh1_0 p.xh1_1) = false → f11_0 (p.F2_0 ((0:Nat) + s.x13.toNat)) p.xh1_0 = true → (1 : Nat) < (2 : Nat)
noncomputable def e30_0_10 (p : P30_0) (s : S30_0) : (Prop) := (!f13_0 (p.F2_0 ((0:Nat) + s.x13.toNat)) (p.F2_1 ((0:Nat) + s.x13.toNat)) p.xh1_0 p.xh1_1) = false → f11_0 (p.F2_0 ((0:Nat) + s.x13.toNat)) p.xh1_0 = true → f11_0 p.xh1_1 (p.F2_1 ((0:Nat) + s.x13.toNat)) = true → (0:Nat) = (0:Nat) ∧ s.n5 + (1 : Nat) ≤ s.n5 + (1 : Nat) ∧ (1 : Nat) ≤ (1 : Nat) ∧ (s.n5 + (1 : Nat) + (1 : Nat)) * (4096 : Nat) ≤ (140737488355328 : Nat) ∧ s.n5 + (1 : Nat) + (1 : Nat) ≤ (9223372036854775807 : Nat)
noncomputable def e30_0_11 (p : P30_0) (s : S30_0) : (Prop) := (!f13_0 (p.F2_0 ((0:Nat) + s.x13.toNat)) (p.F2_1 ((0:Nat) + s.x13.toNat)) p.xh1_0 p.xh1_1) = false → f11_0 (p.F2_0 ((0:Nat) + s.x13.toNat)) p.xh1_0 = false → (0 : Int) ≤ (1 : Int) ∧ (1 : Int) < (2 : Int)
noncomputable def e30_0_12 (p : P30_0) (s : S30_0) : (Prop) := (!f13_0 (p.F2_0 ((0:Nat) + s.x13.toNat)) (p.F2_1 ((0:Nat) + s.x13.toNat)) p.xh1_0 p.xh1_1) = false → f11_0 (p.F2_0 ((0:Nat) + s.x13.toNat)) p.xh1_0 = false → (1 : Nat) < (2 : Nat)
noncomputable def e30_0_13 (p : P30_0) (s : S30_0) : (Prop) := (!f13_0 (p.F2_0 ((0:Nat) + s.x13.toNat)) (p.F2_1 ((0:Nat) + s.x13.toNat)) p.xh1_0 p.xh1_1) = false → f11_0 (p.F2_0 ((0:Nat) + s.x13.toNat)) p.xh1_0 = false → f11_0 p.xh1_1 (p.F2_1 ((0:Nat) + s.x13.toNat)) = true → (0:Nat) = (0:Nat) ∧ s.n5 ≤ s.N3 ∧ (1 : Nat) ≤ (1 : Nat) ∧ (s.n5 + (1 : Nat)) * (4096 : Nat) ≤ (140737488355328 : Nat) ∧ s.n5 + (1 : Nat) ≤ (9223372036854775807 : Nat)
noncomputable def e30_0_14 (p : P30_0) (s : S30_0) : (Bool) := !f13_0 (p.F2_0 ((0:Nat) + s.x13.toNat)) (p.F2_1 ((0:Nat) + s.x13.toNat)) p.xh1_0 p.xh1_1
noncomputable def e30_0_15 (p : P30_0) (s : S30_0) : (Prop) := ((∀ (i : Nat), scpL (0:Nat) ((fun (j : Nat) => [SV.int IntKind.u64 (p.F0_0 j), SV.int IntKind.u64 (p.F0_1 j)]) i) = true) ∧ (∀ (i : Nat), scpL (0:Nat) ((fun (j : Nat) => [SV.int IntKind.u64 (p.F2_0 j), SV.int IntKind.u64 (p.F2_1 j)]) i) = true) ∧ ∀ (i : Nat), scpL (0:Nat) ((fun (i : Nat) => rowSet (i.blt s.n5) ((fun (j : Nat) => [SV.int IntKind.u64 (s.F3_0 j), SV.int IntKind.u64 (s.F3_1 j)]) i) (rowEl (1 : Nat) (2 : Nat) (setMany (List.map (fun (i : Nat) => [SV.int IntKind.u64 (0 : Int), SV.int IntKind.u64 (0 : Int)].getD (i % (2 : Nat)) Inhabited.default) (List.range (2 : Nat))) (0:Nat) (SV.agg (List.take (2 : Nat) (List.drop (0:Nat) (splice [SV.int IntKind.u64 (0 : Int), SV.int IntKind.u64 (0 : Int)] (0:Nat) (SV.agg (List.take (2 : Nat) (List.drop (0:Nat) ((fun (j : Nat) => [SV.int IntKind.u64 (p.F2_0 j), SV.int IntKind.u64 (p.F2_1 j)]) ((0:Nat) + s.x13.toNat))))).cells)))).cells) ((0:Nat) + (i - s.n5)))) i) = true) ∧ (∀ (i : Nat), i < p.N0 → (fun (j : Nat) => [SV.int IntKind.u64 (p.F0_0 j), SV.int IntKind.u64 (p.F0_1 j)]) i = elC (fun (j : Nat) => [SV.int IntKind.u64 (p.F0_0 j), SV.int IntKind.u64 (p.F0_1 j)]) (0:Nat) [Ck.int IntKind.u64, Ck.int IntKind.u64] i) ∧ (∀ (i : Nat), i < p.N2 → (fun (j : Nat) => [SV.int IntKind.u64 (p.F2_0 j), SV.int IntKind.u64 (p.F2_1 j)]) i = elC (fun (j : Nat) => [SV.int IntKind.u64 (p.F2_0 j), SV.int IntKind.u64 (p.F2_1 j)]) (0:Nat) [Ck.int IntKind.u64, Ck.int IntKind.u64] i) ∧ ∀ (i : Nat), i < s.n5 + (1 : Nat) → (fun (i : Nat) => rowSet (i.blt s.n5) ((fun (j : Nat) => [SV.int IntKind.u64 (s.F3_0 j), SV.int IntKind.u64 (s.F3_1 j)]) i) (rowEl (1 : Nat) (2 : Nat) (setMany (List.map (fun (i : Nat) => [SV.int IntKind.u64 (0 : Int), SV.int IntKind.u64 (0 : Int)].getD (i % (2 : Nat)) Inhabited.default) (List.range (2 : Nat))) (0:Nat) (SV.agg (List.take (2 : Nat) (List.drop (0:Nat) (splice [SV.int IntKind.u64 (0 : Int), SV.int IntKind.u64 (0 : Int)] (0:Nat) (SV.agg (List.take (2 : Nat) (List.drop (0:Nat) ((fun (j : Nat) => [SV.int IntKind.u64 (p.F2_0 j), SV.int IntKind.u64 (p.F2_1 j)]) ((0:Nat) + s.x13.toNat))))).cells)))).cells) ((0:Nat) + (i - s.n5)))) i = elC (fun (i : Nat) => rowSet (i.blt s.n5) ((fun (j : Nat) => [SV.int IntKind.u64 (s.F3_0 j), SV.int IntKind.u64 (s.F3_1 j)]) i) (rowEl (1 : Nat) (2 : Nat) (setMany (List.map (fun (i : Nat) => [SV.int IntKind.u64 (0 : Int), SV.int IntKind.u64 (0 : Int)].getD (i % (2 : Nat)) Inhabited.default) (List.range (2 : Nat))) (0:Nat) (SV.agg (List.take (2 : Nat) (List.drop (0:Nat) (splice [SV.int IntKind.u64 (0 : Int), SV.int IntKind.u64 (0 : Int)] (0:Nat) (SV.agg (List.take (2 : Nat) (List.drop (0:Nat) ((fun (j : Nat) => [SV.int IntKind.u64 (p.F2_0 j), SV.int IntKind.u64 (p.F2_1 j)]) ((0:Nat) + s.x13.toNat))))).cells)))).cells) ((0:Nat) + (i - s.n5)))) (0:Nat) [Ck.int IntKind.u64, Ck.int IntKind.u64] i
noncomputable def e30_0_16 (p : P30_0) (s : S30_0) : (Nat) := s.n5 + (1 : Nat)
noncomputable def e30_0_17 (p : P30_0) (s : S30_0) : (Int) := IntKind.i64.wrap (s.x13 + (1 : Int))
noncomputable def e30_0_18 (p : P30_0) (s : S30_0) : Nat → (Int) := fun j => cnd (j.blt s.n5) (s.F3_0 j) (p.F2_0 ((0:Nat) + s.x13.toNat))
noncomputable def e30_0_19 (p : P30_0) (s : S30_0) : Nat → (Int) := fun j => cnd (j.blt s.n5) (s.F3_1 j) (p.F2_1 ((0:Nat) + s.x13.toNat))
noncomputable def e30_0_20 (p : P30_0) (s : S30_0) : (Bool) := f11_0 (p.F2_0 ((0:Nat) + s.x13.toNat)) p.xh1_0
noncomputable def e30_0_21 (p : P30_0) (s : S30_0) : (Bool) := f11_0 p.xh1_1 (p.F2_1 ((0:Nat) + s.x13.toNat))
noncomputable def e30_0_22 (p : P30_0) (s : S30_0) : (Prop) := ((∀ (i : Nat), scpL (0:Nat) ((fun (j : Nat) => [SV.int IntKind.u64 (p.F0_0 j), SV.int IntKind.u64 (p.F0_1 j)]) i) = true) ∧ (∀ (i : Nat), scpL (0:Nat) ((fun (j : Nat) => [SV.int IntKind.u64 (p.F2_0 j), SV.int IntKind.u64 (p.F2_1 j)]) i) = true) ∧ ∀ (i : Nat), scpL (0:Nat) ((fun (i : Nat) => rowSet (i.blt (s.n5 + (1 : Nat))) ((fun (i : Nat) => rowSet (i.blt s.n5) ((fun (j : Nat) => [SV.int IntKind.u64 (s.F3_0 j), SV.int IntKind.u64 (s.F3_1 j)]) i) (rowEl (1 : Nat) (2 : Nat) (setMany (List.map (fun (i : Nat) => [SV.int IntKind.u64 (0 : Int), SV.int IntKind.u64 (0 : Int)].getD (i % (2 : Nat)) Inhabited.default) (List.range (2 : Nat))) (0:Nat) (SV.agg (List.take (2 : Nat) (List.drop (0:Nat) (splice [SV.int IntKind.u64 (0 : Int), SV.int IntKind.u64 (0 : Int)] (0:Nat) (SV.agg (List.take (2 : Nat) (List.drop (0:Nat) (rowEl (2 : Nat) (2 : Nat) (setMany (setMany (List.map (fun (i : Nat) => [SV.int IntKind.u64 (0 : Int), SV.int IntKind.u64 (0 : Int)].getD (i % (2 : Nat)) Inhabited.default) (List.range (4 : Nat))) (0:Nat) (SV.agg (setMany (setMany [SV.int IntKind.u64 (0 : Int), SV.int IntKind.u64 (0 : Int)] (0:Nat) (SV.int IntKind.u64 (p.F2_0 ((0:Nat) + s.x13.toNat))).cells) (1 : Nat) (SV.int IntKind.u64 p.xh1_0).cells)).cells) (2 : Nat) (SV.agg (setMany (setMany [SV.int IntKind.u64 (0 : Int), SV.int IntKind.u64 (0 : Int)] (0:Nat) (SV.int IntKind.u64 p.xh1_1).cells) (1 : Nat) (SV.int IntKind.u64 (p.F2_1 ((0:Nat) + s.x13.toNat))).cells)).cells) (0:Nat))))).cells)))).cells) ((0:Nat) + (i - s.n5)))) i) (rowEl (1 : Nat) (2 : Nat) (setMany (List.map (fun (i : Nat) => [SV.int IntKind.u64 (0 : Int), SV.int IntKind.u64 (0 : Int)].getD (i % (2 : Nat)) Inhabited.default) (List.range (2 : Nat))) (0:Nat) (SV.agg (List.take (2 : Nat) (List.drop (0:Nat) (splice [SV.int IntKind.u64 (0 : Int), SV.int IntKind.u64 (0 : Int)] (0:Nat) (SV.agg (List.take (2 : Nat) (List.drop (0:Nat) (rowEl (2 : Nat) (2 : Nat) (setMany (setMany (List.map (fun (i : Nat) => [SV.int IntKind.u64 (0 : Int), SV.int IntKind.u64 (0 : Int)].getD (i % (2 : Nat)) Inhabited.default) (List.range (4 : Nat))) (0:Nat) (SV.agg (setMany (setMany [SV.int IntKind.u64 (0 : Int), SV.int IntKind.u64 (0 : Int)] (0:Nat) (SV.int IntKind.u64 (p.F2_0 ((0:Nat) + s.x13.toNat))).cells) (1 : Nat) (SV.int IntKind.u64 p.xh1_0).cells)).cells) (2 : Nat) (SV.agg (setMany (setMany [SV.int IntKind.u64 (0 : Int), SV.int IntKind.u64 (0 : Int)] (0:Nat) (SV.int IntKind.u64 p.xh1_1).cells) (1 : Nat) (SV.int IntKind.u64 (p.F2_1 ((0:Nat) + s.x13.toNat))).cells)).cells) (1 : Nat))))).cells)))).cells) ((0:Nat) + (i - (s.n5 + (1 : Nat)))))) i) = true) ∧ (∀ (i : Nat), i < p.N0 → (fun (j : Nat) => [SV.int IntKind.u64 (p.F0_0 j), SV.int IntKind.u64 (p.F0_1 j)]) i = elC (fun (j : Nat) => [SV.int IntKind.u64 (p.F0_0 j), SV.int IntKind.u64 (p.F0_1 j)]) (0:Nat) [Ck.int IntKind.u64, Ck.int IntKind.u64] i) ∧ (∀ (i : Nat), i < p.N2 → (fun (j : Nat) => [SV.int IntKind.u64 (p.F2_0 j), SV.int IntKind.u64 (p.F2_1 j)]) i = elC (fun (j : Nat) => [SV.int IntKind.u64 (p.F2_0 j), SV.int IntKind.u64 (p.F2_1 j)]) (0:Nat) [Ck.int IntKind.u64, Ck.int IntKind.u64] i) ∧ ∀ (i : Nat), i < s.n5 + (1 : Nat) + (1 : Nat) → (fun (i : Nat) => rowSet (i.blt (s.n5 + (1 : Nat))) ((fun (i : Nat) => rowSet (i.blt s.n5) ((fun (j : Nat) => [SV.int IntKind.u64 (s.F3_0 j), SV.int IntKind.u64 (s.F3_1 j)]) i) (rowEl (1 : Nat) (2 : Nat) (setMany (List.map (fun (i : Nat) => [SV.int IntKind.u64 (0 : Int), SV.int IntKind.u64 (0 : Int)].getD (i % (2 : Nat)) Inhabited.default) (List.range (2 : Nat))) (0:Nat) (SV.agg (List.take (2 : Nat) (List.drop (0:Nat) (splice [SV.int IntKind.u64 (0 : Int), SV.int IntKind.u64 (0 : Int)] (0:Nat) (SV.agg (List.take (2 : Nat) (List.drop (0:Nat) (rowEl (2 : Nat) (2 : Nat) (setMany (setMany (List.map (fun (i : Nat) => [SV.int IntKind.u64 (0 : Int), SV.int IntKind.u64 (0 : Int)].getD (i % (2 : Nat)) Inhabited.default) (List.range (4 : Nat))) (0:Nat) (SV.agg (setMany (setMany [SV.int IntKind.u64 (0 : Int), SV.int IntKind.u64 (0 : Int)] (0:Nat) (SV.int IntKind.u64 (p.F2_0 ((0:Nat) + s.x13.toNat))).cells) (1 : Nat) (SV.int IntKind.u64 p.xh1_0).cells)).cells) (2 : Nat) (SV.agg (setMany (setMany [SV.int IntKind.u64 (0 : Int), SV.int IntKind.u64 (0 : Int)] (0:Nat) (SV.int IntKind.u64 p.xh1_1).cells) (1 : Nat) (SV.int IntKind.u64 (p.F2_1 ((0:Nat) + s.x13.toNat))).cells)).cells) (0:Nat))))).cells)))).cells) ((0:Nat) + (i - s.n5)))) i) (rowEl (1 : Nat) (2 : Nat) (setMany (List.map (fun (i : Nat) => [SV.int IntKind.u64 (0 : Int), SV.int IntKind.u64 (0 : Int)].getD (i % (2 : Nat)) Inhabited.default) (List.range (2 : Nat))) (0:Nat) (SV.agg (List.take (2 : Nat) (List.drop (0:Nat) (splice [SV.int IntKind.u64 (0 : Int), SV.int IntKind.u64 (0 : Int)] (0:Nat) (SV.agg (List.take (2 : Nat) (List.drop (0:Nat) (rowEl (2 : Nat) (2 : Nat) (setMany (setMany (List.map (fun (i : Nat) => [SV.int IntKind.u64 (0 : Int), SV.int IntKind.u64 (0 : Int)].getD (i % (2 : Nat)) Inhabited.default) (List.range (4 : Nat))) (0:Nat) (SV.agg (setMany (setMany [SV.int IntKind.u64 (0 : Int), SV.int IntKind.u64 (0 : Int)] (0:Nat) (SV.int IntKind.u64 (p.F2_0 ((0:Nat) + s.x13.toNat))).cells) (1 : Nat) (SV.int IntKind.u64 p.xh1_0).cells)).cells) (2 : Nat) (SV.agg (setMany (setMany [SV.int IntKind.u64 (0 : Int), SV.int IntKind.u64 (0 : Int)] (0:Nat) (SV.int IntKind.u64 p.xh1_1).cells) (1 : Nat) (SV.int IntKind.u64 (p.F2_1 ((0:Nat) + s.x13.toNat))).cells)).cells) (1 : Nat))))).cells)))).cells) ((0:Nat) + (i - (s.n5 + (1 : Nat)))))) i = elC (fun (i : Nat) => rowSet (i.blt (s.n5 + (1 : Nat))) ((fun (i : Nat) => rowSet (i.blt s.n5) ((fun (j : Nat) => [SV.int IntKind.u64 (s.F3_0 j), SV.int IntKind.u64 (s.F3_1 j)]) i) (rowEl (1 : Nat) (2 : Nat) (setMany (List.map (fun (i : Nat) => [SV.int IntKind.u64 (0 : Int), SV.int IntKind.u64 (0 : Int)].getD (i % (2 : Nat)) Inhabited.default) (List.range (2 : Nat))) (0:Nat) (SV.agg (List.take (2 : Nat) (List.drop (0:Nat) (splice [SV.int IntKind.u64 (0 : Int), SV.int IntKind.u64 (0 : Int)] (0:Nat) (SV.agg (List.take (2 : Nat) (List.drop (0:Nat) (rowEl (2 : Nat) (2 : Nat) (setMany (setMany (List.map (fun (i : Nat) => [SV.int IntKind.u64 (0 : Int), SV.int IntKind.u64 (0 : Int)].getD (i % (2 : Nat)) Inhabited.default) (List.range (4 : Nat))) (0:Nat) (SV.agg (setMany (setMany [SV.int IntKind.u64 (0 : Int), SV.int IntKind.u64 (0 : Int)] (0:Nat) (SV.int IntKind.u64 (p.F2_0 ((0:Nat) + s.x13.toNat))).cells) (1 : Nat) (SV.int IntKind.u64 p.xh1_0).cells)).cells) (2 : Nat) (SV.agg (setMany (setMany [SV.int IntKind.u64 (0 : Int), SV.int IntKind.u64 (0 : Int)] (0:Nat) (SV.int IntKind.u64 p.xh1_1).cells) (1 : Nat) (SV.int IntKind.u64 (p.F2_1 ((0:Nat) + s.x13.toNat))).cells)).cells) (0:Nat))))).cells)))).cells) ((0:Nat) + (i - s.n5)))) i) (rowEl (1 : Nat) (2 : Nat) (setMany (List.map (fun (i : Nat) => [SV.int IntKind.u64 (0 : Int), SV.int IntKind.u64 (0 : Int)].getD (i % (2 : Nat)) Inhabited.default) (List.range (2 : Nat))) (0:Nat) (SV.agg (List.take (2 : Nat) (List.drop (0:Nat) (splice [SV.int IntKind.u64 (0 : Int), SV.int IntKind.u64 (0 : Int)] (0:Nat) (SV.agg (List.take (2 : Nat) (List.drop (0:Nat) (rowEl (2 : Nat) (2 : Nat) (setMany (setMany (List.map (fun (i : Nat) => [SV.int IntKind.u64 (0 : Int), SV.int IntKind.u64 (0 : Int)].getD (i % (2 : Nat)) Inhabited.default) (List.range (4 : Nat))) (0:Nat) (SV.agg (setMany (setMany [SV.int IntKind.u64 (0 : Int), SV.int IntKind.u64 (0 : Int)] (0:Nat) (SV.int IntKind.u64 (p.F2_0 ((0:Nat) + s.x13.toNat))).cells) (1 : Nat) (SV.int IntKind.u64 p.xh1_0).cells)).cells) (2 : Nat) (SV.agg (setMany (setMany [SV.int IntKind.u64 (0 : Int), SV.int IntKind.u64 (0 : Int)] (0:Nat) (SV.int IntKind.u64 p.xh1_1).cells) (1 : Nat) (SV.int IntKind.u64 (p.F2_1 ((0:Nat) + s.x13.toNat))).cells)).cells) (1 : Nat))))).cells)))).cells) ((0:Nat) + (i - (s.n5 + (1 : Nat)))))) (0:Nat) [Ck.int IntKind.u64, Ck.int IntKind.u64] i
noncomputable def e30_0_23 (p : P30_0) (s : S30_0) : (Nat) := s.n5 + (1 : Nat) + (1 : Nat)
noncomputable def e30_0_24 (p : P30_0) (s : S30_0) : Nat → (Int) := fun j => cnd (j.blt (s.n5 + (1 : Nat))) (cnd (j.blt s.n5) (s.F3_0 j) (p.F2_0 ((0:Nat) + s.x13.toNat))) p.xh1_1
noncomputable def e30_0_25 (p : P30_0) (s : S30_0) : Nat → (Int) := fun j => cnd (j.blt (s.n5 + (1 : Nat))) (cnd (j.blt s.n5) (s.F3_1 j) p.xh1_0) (p.F2_1 ((0:Nat) + s.x13.toNat))
noncomputable def e30_0_26 (p : P30_0) (s : S30_0) : (Prop) := ((∀ (i : Nat), scpL (0:Nat) ((fun (j : Nat) => [SV.int IntKind.u64 (p.F0_0 j), SV.int IntKind.u64 (p.F0_1 j)]) i) = true) ∧ (∀ (i : Nat), scpL (0:Nat) ((fun (j : Nat) => [SV.int IntKind.u64 (p.F2_0 j), SV.int IntKind.u64 (p.F2_1 j)]) i) = true) ∧ ∀ (i : Nat), scpL (0:Nat) ((fun (i : Nat) => rowSet (i.blt s.n5) ((fun (j : Nat) => [SV.int IntKind.u64 (s.F3_0 j), SV.int IntKind.u64 (s.F3_1 j)]) i) (rowEl (1 : Nat) (2 : Nat) (setMany (List.map (fun (i : Nat) => [SV.int IntKind.u64 (0 : Int), SV.int IntKind.u64 (0 : Int)].getD (i % (2 : Nat)) Inhabited.default) (List.range (2 : Nat))) (0:Nat) (SV.agg (List.take (2 : Nat) (List.drop (0:Nat) (splice [SV.int IntKind.u64 (0 : Int), SV.int IntKind.u64 (0 : Int)] (0:Nat) (SV.agg (List.take (2 : Nat) (List.drop (0:Nat) (rowEl (2 : Nat) (2 : Nat) (setMany (setMany (List.map (fun (i : Nat) => [SV.int IntKind.u64 (0 : Int), SV.int IntKind.u64 (0 : Int)].getD (i % (2 : Nat)) Inhabited.default) (List.range (4 : Nat))) (0:Nat) (SV.agg (setMany (setMany [SV.int IntKind.u64 (0 : Int), SV.int IntKind.u64 (0 : Int)] (0:Nat) (SV.int IntKind.u64 (p.F2_0 ((0:Nat) + s.x13.toNat))).cells) (1 : Nat) (SV.int IntKind.u64 p.xh1_0).cells)).cells) (2 : Nat) (SV.agg (setMany (setMany [SV.int IntKind.u64 (0 : Int), SV.int IntKind.u64 (0 : Int)] (0:Nat) (SV.int IntKind.u64 p.xh1_1).cells) (1 : Nat) (SV.int IntKind.u64 (p.F2_1 ((0:Nat) + s.x13.toNat))).cells)).cells) (0:Nat))))).cells)))).cells) ((0:Nat) + (i - s.n5)))) i) = true) ∧ (∀ (i : Nat), i < p.N0 → (fun (j : Nat) => [SV.int IntKind.u64 (p.F0_0 j), SV.int IntKind.u64 (p.F0_1 j)]) i = elC (fun (j : Nat) => [SV.int IntKind.u64 (p.F0_0 j), SV.int IntKind.u64 (p.F0_1 j)]) (0:Nat) [Ck.int IntKind.u64, Ck.int IntKind.u64] i) ∧ (∀ (i : Nat), i < p.N2 → (fun (j : Nat) => [SV.int IntKind.u64 (p.F2_0 j), SV.int IntKind.u64 (p.F2_1 j)]) i = elC (fun (j : Nat) => [SV.int IntKind.u64 (p.F2_0 j), SV.int IntKind.u64 (p.F2_1 j)]) (0:Nat) [Ck.int IntKind.u64, Ck.int IntKind.u64] i) ∧ ∀ (i : Nat), i < s.n5 + (1 : Nat) → (fun (i : Nat) => rowSet (i.blt s.n5) ((fun (j : Nat) => [SV.int IntKind.u64 (s.F3_0 j), SV.int IntKind.u64 (s.F3_1 j)]) i) (rowEl (1 : Nat) (2 : Nat) (setMany (List.map (fun (i : Nat) => [SV.int IntKind.u64 (0 : Int), SV.int IntKind.u64 (0 : Int)].getD (i % (2 : Nat)) Inhabited.default) (List.range (2 : Nat))) (0:Nat) (SV.agg (List.take (2 : Nat) (List.drop (0:Nat) (splice [SV.int IntKind.u64 (0 : Int), SV.int IntKind.u64 (0 : Int)] (0:Nat) (SV.agg (List.take (2 : Nat) (List.drop (0:Nat) (rowEl (2 : Nat) (2 : Nat) (setMany (setMany (List.map (fun (i : Nat) => [SV.int IntKind.u64 (0 : Int), SV.int IntKind.u64 (0 : Int)].getD (i % (2 : Nat)) Inhabited.default) (List.range (4 : Nat))) (0:Nat) (SV.agg (setMany (setMany [SV.int IntKind.u64 (0 : Int), SV.int IntKind.u64 (0 : Int)] (0:Nat) (SV.int IntKind.u64 (p.F2_0 ((0:Nat) + s.x13.toNat))).cells) (1 : Nat) (SV.int IntKind.u64 p.xh1_0).cells)).cells) (2 : Nat) (SV.agg (setMany (setMany [SV.int IntKind.u64 (0 : Int), SV.int IntKind.u64 (0 : Int)] (0:Nat) (SV.int IntKind.u64 p.xh1_1).cells) (1 : Nat) (SV.int IntKind.u64 (p.F2_1 ((0:Nat) + s.x13.toNat))).cells)).cells) (0:Nat))))).cells)))).cells) ((0:Nat) + (i - s.n5)))) i = elC (fun (i : Nat) => rowSet (i.blt s.n5) ((fun (j : Nat) => [SV.int IntKind.u64 (s.F3_0 j), SV.int IntKind.u64 (s.F3_1 j)]) i) (rowEl (1 : Nat) (2 : Nat) (setMany (List.map (fun (i : Nat) => [SV.int IntKind.u64 (0 : Int), SV.int IntKind.u64 (0 : Int)].getD (i % (2 : Nat)) Inhabited.default) (List.range (2 : Nat))) (0:Nat) (SV.agg (List.take (2 : Nat) (List.drop (0:Nat) (splice [SV.int IntKind.u64 (0 : Int), SV.int IntKind.u64 (0 : Int)] (0:Nat) (SV.agg (List.take (2 : Nat) (List.drop (0:Nat) (rowEl (2 : Nat) (2 : Nat) (setMany (setMany (List.map (fun (i : Nat) => [SV.int IntKind.u64 (0 : Int), SV.int IntKind.u64 (0 : Int)].getD (i % (2 : Nat)) Inhabited.default) (List.range (4 : Nat))) (0:Nat) (SV.agg (setMany (setMany [SV.int IntKind.u64 (0 : Int), SV.int IntKind.u64 (0 : Int)] (0:Nat) (SV.int IntKind.u64 (p.F2_0 ((0:Nat) + s.x13.toNat))).cells) (1 : Nat) (SV.int IntKind.u64 p.xh1_0).cells)).cells) (2 : Nat) (SV.agg (setMany (setMany [SV.int IntKind.u64 (0 : Int), SV.int IntKind.u64 (0 : Int)] (0:Nat) (SV.int IntKind.u64 p.xh1_1).cells) (1 : Nat) (SV.int IntKind.u64 (p.F2_1 ((0:Nat) + s.x13.toNat))).cells)).cells) (0:Nat))))).cells)))).cells) ((0:Nat) + (i - s.n5)))) (0:Nat) [Ck.int IntKind.u64, Ck.int IntKind.u64] i
noncomputable def e30_0_27 (p : P30_0) (s : S30_0) : Nat → (Int) := fun j => cnd (j.blt s.n5) (s.F3_1 j) p.xh1_0
noncomputable def e30_0_28 (p : P30_0) (s : S30_0) : (Prop) := ((∀ (i : Nat), scpL (0:Nat) ((fun (j : Nat) => [SV.int IntKind.u64 (p.F0_0 j), SV.int IntKind.u64 (p.F0_1 j)]) i) = true) ∧ (∀ (i : Nat), scpL (0:Nat) ((fun (j : Nat) => [SV.int IntKind.u64 (p.F2_0 j), SV.int IntKind.u64 (p.F2_1 j)]) i) = true) ∧ ∀ (i : Nat), scpL (0:Nat) ((fun (i : Nat) => rowSet (i.blt s.n5) ((fun (j : Nat) => [SV.int IntKind.u64 (s.F3_0 j), SV.int IntKind.u64 (s.F3_1 j)]) i) (rowEl (1 : Nat) (2 : Nat) (setMany (List.map (fun (i : Nat) => [SV.int IntKind.u64 (0 : Int), SV.int IntKind.u64 (0 : Int)].getD (i % (2 : Nat)) Inhabited.default) (List.range (2 : Nat))) (0:Nat) (SV.agg (List.take (2 : Nat) (List.drop (0:Nat) (splice [SV.int IntKind.u64 (0 : Int), SV.int IntKind.u64 (0 : Int)] (0:Nat) (SV.agg (List.take (2 : Nat) (List.drop (0:Nat) (rowEl (2 : Nat) (2 : Nat) (setMany (setMany (List.map (fun (i : Nat) => [SV.int IntKind.u64 (0 : Int), SV.int IntKind.u64 (0 : Int)].getD (i % (2 : Nat)) Inhabited.default) (List.range (4 : Nat))) (0:Nat) (SV.agg (setMany (setMany [SV.int IntKind.u64 (0 : Int), SV.int IntKind.u64 (0 : Int)] (0:Nat) (SV.int IntKind.u64 (p.F2_0 ((0:Nat) + s.x13.toNat))).cells) (1 : Nat) (SV.int IntKind.u64 p.xh1_0).cells)).cells) (2 : Nat) (SV.agg (setMany (setMany [SV.int IntKind.u64 (0 : Int), SV.int IntKind.u64 (0 : Int)] (0:Nat) (SV.int IntKind.u64 p.xh1_1).cells) (1 : Nat) (SV.int IntKind.u64 (p.F2_1 ((0:Nat) + s.x13.toNat))).cells)).cells) (1 : Nat))))).cells)))).cells) ((0:Nat) + (i - s.n5)))) i) = true) ∧ (∀ (i : Nat), i < p.N0 → (fun (j : Nat) => [SV.int IntKind.u64 (p.F0_0 j), SV.int IntKind.u64 (p.F0_1 j)]) i = elC (fun (j : Nat) => [SV.int IntKind.u64 (p.F0_0 j), SV.int IntKind.u64 (p.F0_1 j)]) (0:Nat) [Ck.int IntKind.u64, Ck.int IntKind.u64] i) ∧ (∀ (i : Nat), i < p.N2 → (fun (j : Nat) => [SV.int IntKind.u64 (p.F2_0 j), SV.int IntKind.u64 (p.F2_1 j)]) i = elC (fun (j : Nat) => [SV.int IntKind.u64 (p.F2_0 j), SV.int IntKind.u64 (p.F2_1 j)]) (0:Nat) [Ck.int IntKind.u64, Ck.int IntKind.u64] i) ∧ ∀ (i : Nat), i < s.n5 + (1 : Nat) → (fun (i : Nat) => rowSet (i.blt s.n5) ((fun (j : Nat) => [SV.int IntKind.u64 (s.F3_0 j), SV.int IntKind.u64 (s.F3_1 j)]) i) (rowEl (1 : Nat) (2 : Nat) (setMany (List.map (fun (i : Nat) => [SV.int IntKind.u64 (0 : Int), SV.int IntKind.u64 (0 : Int)].getD (i % (2 : Nat)) Inhabited.default) (List.range (2 : Nat))) (0:Nat) (SV.agg (List.take (2 : Nat) (List.drop (0:Nat) (splice [SV.int IntKind.u64 (0 : Int), SV.int IntKind.u64 (0 : Int)] (0:Nat) (SV.agg (List.take (2 : Nat) (List.drop (0:Nat) (rowEl (2 : Nat) (2 : Nat) (setMany (setMany (List.map (fun (i : Nat) => [SV.int IntKind.u64 (0 : Int), SV.int IntKind.u64 (0 : Int)].getD (i % (2 : Nat)) Inhabited.default) (List.range (4 : Nat))) (0:Nat) (SV.agg (setMany (setMany [SV.int IntKind.u64 (0 : Int), SV.int IntKind.u64 (0 : Int)] (0:Nat) (SV.int IntKind.u64 (p.F2_0 ((0:Nat) + s.x13.toNat))).cells) (1 : Nat) (SV.int IntKind.u64 p.xh1_0).cells)).cells) (2 : Nat) (SV.agg (setMany (setMany [SV.int IntKind.u64 (0 : Int), SV.int IntKind.u64 (0 : Int)] (0:Nat) (SV.int IntKind.u64 p.xh1_1).cells) (1 : Nat) (SV.int IntKind.u64 (p.F2_1 ((0:Nat) + s.x13.toNat))).cells)).cells) (1 : Nat))))).cells)))).cells) ((0:Nat) + (i - s.n5)))) i = elC (fun (i : Nat) => rowSet (i.blt s.n5) ((fun (j : Nat) => [SV.int IntKind.u64 (s.F3_0 j), SV.int IntKind.u64 (s.F3_1 j)]) i) (rowEl (1 : Nat) (2 : Nat) (setMany (List.map (fun (i : Nat) => [SV.int IntKind.u64 (0 : Int), SV.int IntKind.u64 (0 : Int)].getD (i % (2 : Nat)) Inhabited.default) (List.range (2 : Nat))) (0:Nat) (SV.agg (List.take (2 : Nat) (List.drop (0:Nat) (splice [SV.int IntKind.u64 (0 : Int), SV.int IntKind.u64 (0 : Int)] (0:Nat) (SV.agg (List.take (2 : Nat) (List.drop (0:Nat) (rowEl (2 : Nat) (2 : Nat) (setMany (setMany (List.map (fun (i : Nat) => [SV.int IntKind.u64 (0 : Int), SV.int IntKind.u64 (0 : Int)].getD (i % (2 : Nat)) Inhabited.default) (List.range (4 : Nat))) (0:Nat) (SV.agg (setMany (setMany [SV.int IntKind.u64 (0 : Int), SV.int IntKind.u64 (0 : Int)] (0:Nat) (SV.int IntKind.u64 (p.F2_0 ((0:Nat) + s.x13.toNat))).cells) (1 : Nat) (SV.int IntKind.u64 p.xh1_0).cells)).cells) (2 : Nat) (SV.agg (setMany (setMany [SV.int IntKind.u64 (0 : Int), SV.int IntKind.u64 (0 : Int)] (0:Nat) (SV.int IntKind.u64 p.xh1_1).cells) (1 : Nat) (SV.int IntKind.u64 (p.F2_1 ((0:Nat) + s.x13.toNat))).cells)).cells) (1 : Nat))))).cells)))).cells) ((0:Nat) + (i - s.n5)))) (0:Nat) [Ck.int IntKind.u64, Ck.int IntKind.u64] i
noncomputable def e30_0_29 (p : P30_0) (s : S30_0) : Nat → (Int) := fun j => cnd (j.blt s.n5) (s.F3_0 j) p.xh1_1
noncomputable def e30_0_30 (p : P30_0) (s : S30_0) : (Prop) := ((∀ (i : Nat), scpL (0:Nat) ((fun (j : Nat) => [SV.int IntKind.u64 (p.F0_0 j), SV.int IntKind.u64 (p.F0_1 j)]) i) = true) ∧ (∀ (i : Nat), scpL (0:Nat) ((fun (j : Nat) => [SV.int IntKind.u64 (p.F2_0 j), SV.int IntKind.u64 (p.F2_1 j)]) i) = true) ∧ ∀ (i : Nat), scpL (0:Nat) ((fun (j : Nat) => [SV.int IntKind.u64 (s.F3_0 j), SV.int IntKind.u64 (s.F3_1 j)]) i) = true) ∧ (∀ (i : Nat), i < p.N0 → (fun (j : Nat) => [SV.int IntKind.u64 (p.F0_0 j), SV.int IntKind.u64 (p.F0_1 j)]) i = elC (fun (j : Nat) => [SV.int IntKind.u64 (p.F0_0 j), SV.int IntKind.u64 (p.F0_1 j)]) (0:Nat) [Ck.int IntKind.u64, Ck.int IntKind.u64] i) ∧ (∀ (i : Nat), i < p.N2 → (fun (j : Nat) => [SV.int IntKind.u64 (p.F2_0 j), SV.int IntKind.u64 (p.F2_1 j)]) i = elC (fun (j : Nat) => [SV.int IntKind.u64 (p.F2_0 j), SV.int IntKind.u64 (p.F2_1 j)]) (0:Nat) [Ck.int IntKind.u64, Ck.int IntKind.u64] i) ∧ ∀ (i : Nat), i < s.N3 → (fun (j : Nat) => [SV.int IntKind.u64 (s.F3_0 j), SV.int IntKind.u64 (s.F3_1 j)]) i = elC (fun (j : Nat) => [SV.int IntKind.u64 (s.F3_0 j), SV.int IntKind.u64 (s.F3_1 j)]) (0:Nat) [Ck.int IntKind.u64, Ck.int IntKind.u64] i
theorem n_e30_0_1 (p : P30_0) (s : S30_0) : e30_0_1 p s := by
  unfold e30_0_1
  first
    | (intros; rfl)
    | (intro i; rfl)
    | (intro i _; rfl)
    | (intro _ i; rfl)
    | (intro _ i _; rfl)
    | (refine ⟨?_, ?_⟩ <;> intro i <;> rfl)
    | (refine ⟨?_, ?_, ?_⟩ <;> intro i <;> rfl)
    | (refine ⟨?_, ?_⟩ <;> intro i _ <;> rfl)
    | (repeat' apply And.intro) <;> first | (intro i; rfl) | (intro i _; rfl) | (intro i h; exact absurd h (Nat.not_lt_zero i)) | (intro i; exact scpL_rowSet (by rfl) (by rfl)) | (intro i; exact scpL_rowEl (by kernel_rfl) _)
    | (intros; (repeat' apply And.intro) <;> intros <;> first | rfl | (exact absurd (by assumption) (Nat.not_lt_zero _)))
    | omega
    | decide
theorem n_e30_0_5 (p : P30_0) (s : S30_0) : e30_0_5 p s := by
  unfold e30_0_5
  first
    | (intros; rfl)
    | (intro i; rfl)
    | (intro i _; rfl)
    | (intro _ i; rfl)
    | (intro _ i _; rfl)
    | (refine ⟨?_, ?_⟩ <;> intro i <;> rfl)
    | (refine ⟨?_, ?_, ?_⟩ <;> intro i <;> rfl)
    | (refine ⟨?_, ?_⟩ <;> intro i _ <;> rfl)
    | (repeat' apply And.intro) <;> first | (intro i; rfl) | (intro i _; rfl) | (intro i h; exact absurd h (Nat.not_lt_zero i)) | (intro i; exact scpL_rowSet (by rfl) (by rfl)) | (intro i; exact scpL_rowEl (by kernel_rfl) _)
    | (intros; (repeat' apply And.intro) <;> intros <;> first | rfl | (exact absurd (by assumption) (Nat.not_lt_zero _)))
    | omega
    | decide
theorem n_e30_0_6 (p : P30_0) (s : S30_0) : e30_0_6 p s := by
  unfold e30_0_6
  first
    | (intros; rfl)
    | (intro i; rfl)
    | (intro i _; rfl)
    | (intro _ i; rfl)
    | (intro _ i _; rfl)
    | (refine ⟨?_, ?_⟩ <;> intro i <;> rfl)
    | (refine ⟨?_, ?_, ?_⟩ <;> intro i <;> rfl)
    | (refine ⟨?_, ?_⟩ <;> intro i _ <;> rfl)
    | (repeat' apply And.intro) <;> first | (intro i; rfl) | (intro i _; rfl) | (intro i h; exact absurd h (Nat.not_lt_zero i)) | (intro i; exact scpL_rowSet (by rfl) (by rfl)) | (intro i; exact scpL_rowEl (by kernel_rfl) _)
    | (intros; (repeat' apply And.intro) <;> intros <;> first | rfl | (exact absurd (by assumption) (Nat.not_lt_zero _)))
    | omega
    | decide
theorem n_e30_0_8 (p : P30_0) (s : S30_0) : e30_0_8 p s := by
  unfold e30_0_8
  first
    | (intros; rfl)
    | (intro i; rfl)
    | (intro i _; rfl)
    | (intro _ i; rfl)
    | (intro _ i _; rfl)
    | (refine ⟨?_, ?_⟩ <;> intro i <;> rfl)
    | (refine ⟨?_, ?_, ?_⟩ <;> intro i <;> rfl)
    | (refine ⟨?_, ?_⟩ <;> intro i _ <;> rfl)
    | (repeat' apply And.intro) <;> first | (intro i; rfl) | (intro i _; rfl) | (intro i h; exact absurd h (Nat.not_lt_zero i)) | (intro i; exact scpL_rowSet (by rfl) (by rfl)) | (intro i; exact scpL_rowEl (by kernel_rfl) _)
    | (intros; (repeat' apply And.intro) <;> intros <;> first | rfl | (exact absurd (by assumption) (Nat.not_lt_zero _)))
    | omega
    | decide
theorem n_e30_0_9 (p : P30_0) (s : S30_0) : e30_0_9 p s := by
  unfold e30_0_9
  first
    | (intros; rfl)
    | (intro i; rfl)
    | (intro i _; rfl)
    | (intro _ i; rfl)
    | (intro _ i _; rfl)
    | (refine ⟨?_, ?_⟩ <;> intro i <;> rfl)
    | (refine ⟨?_, ?_, ?_⟩ <;> intro i <;> rfl)
    | (refine ⟨?_, ?_⟩ <;> intro i _ <;> rfl)
    | (repeat' apply And.intro) <;> first | (intro i; rfl) | (intro i _; rfl) | (intro i h; exact absurd h (Nat.not_lt_zero i)) | (intro i; exact scpL_rowSet (by rfl) (by rfl)) | (intro i; exact scpL_rowEl (by kernel_rfl) _)
    | (intros; (repeat' apply And.intro) <;> intros <;> first | rfl | (exact absurd (by assumption) (Nat.not_lt_zero _)))
    | omega
    | decide
theorem n_e30_0_11 (p : P30_0) (s : S30_0) : e30_0_11 p s := by
  unfold e30_0_11
  first
    | (intros; rfl)
    | (intro i; rfl)
    | (intro i _; rfl)
    | (intro _ i; rfl)
    | (intro _ i _; rfl)
    | (refine ⟨?_, ?_⟩ <;> intro i <;> rfl)
    | (refine ⟨?_, ?_, ?_⟩ <;> intro i <;> rfl)
    | (refine ⟨?_, ?_⟩ <;> intro i _ <;> rfl)
    | (repeat' apply And.intro) <;> first | (intro i; rfl) | (intro i _; rfl) | (intro i h; exact absurd h (Nat.not_lt_zero i)) | (intro i; exact scpL_rowSet (by rfl) (by rfl)) | (intro i; exact scpL_rowEl (by kernel_rfl) _)
    | (intros; (repeat' apply And.intro) <;> intros <;> first | rfl | (exact absurd (by assumption) (Nat.not_lt_zero _)))
    | omega
    | decide
theorem n_e30_0_12 (p : P30_0) (s : S30_0) : e30_0_12 p s := by
  unfold e30_0_12
  first
    | (intros; rfl)
    | (intro i; rfl)
    | (intro i _; rfl)
    | (intro _ i; rfl)
    | (intro _ i _; rfl)
    | (refine ⟨?_, ?_⟩ <;> intro i <;> rfl)
    | (refine ⟨?_, ?_, ?_⟩ <;> intro i <;> rfl)
    | (refine ⟨?_, ?_⟩ <;> intro i _ <;> rfl)
    | (repeat' apply And.intro) <;> first | (intro i; rfl) | (intro i _; rfl) | (intro i h; exact absurd h (Nat.not_lt_zero i)) | (intro i; exact scpL_rowSet (by rfl) (by rfl)) | (intro i; exact scpL_rowEl (by kernel_rfl) _)
    | (intros; (repeat' apply And.intro) <;> intros <;> first | rfl | (exact absurd (by assumption) (Nat.not_lt_zero _)))
    | omega
    | decide
theorem n_e30_0_15 (p : P30_0) (s : S30_0) : e30_0_15 p s := by
  unfold e30_0_15
  first
    | (intros; rfl)
    | (intro i; rfl)
    | (intro i _; rfl)
    | (intro _ i; rfl)
    | (intro _ i _; rfl)
    | (refine ⟨?_, ?_⟩ <;> intro i <;> rfl)
    | (refine ⟨?_, ?_, ?_⟩ <;> intro i <;> rfl)
    | (refine ⟨?_, ?_⟩ <;> intro i _ <;> rfl)
    | (repeat' apply And.intro) <;> first | (intro i; rfl) | (intro i _; rfl) | (intro i h; exact absurd h (Nat.not_lt_zero i)) | (intro i; exact scpL_rowSet (by rfl) (by rfl)) | (intro i; exact scpL_rowEl (by kernel_rfl) _)
    | (intros; (repeat' apply And.intro) <;> intros <;> first | rfl | (exact absurd (by assumption) (Nat.not_lt_zero _)))
    | omega
    | decide
theorem n_e30_0_22 (p : P30_0) (s : S30_0) : e30_0_22 p s := by
  unfold e30_0_22
  first
    | (intros; rfl)
    | (intro i; rfl)
    | (intro i _; rfl)
    | (intro _ i; rfl)
    | (intro _ i _; rfl)
    | (refine ⟨?_, ?_⟩ <;> intro i <;> rfl)
    | (refine ⟨?_, ?_, ?_⟩ <;> intro i <;> rfl)
    | (refine ⟨?_, ?_⟩ <;> intro i _ <;> rfl)
    | (repeat' apply And.intro) <;> first | (intro i; rfl) | (intro i _; rfl) | (intro i h; exact absurd h (Nat.not_lt_zero i)) | (intro i; exact scpL_rowSet (by rfl) (by rfl)) | (intro i; exact scpL_rowEl (by kernel_rfl) _)
    | (intros; (repeat' apply And.intro) <;> intros <;> first | rfl | (exact absurd (by assumption) (Nat.not_lt_zero _)))
    | omega
    | decide
theorem n_e30_0_26 (p : P30_0) (s : S30_0) : e30_0_26 p s := by
  unfold e30_0_26
  first
    | (intros; rfl)
    | (intro i; rfl)
    | (intro i _; rfl)
    | (intro _ i; rfl)
    | (intro _ i _; rfl)
    | (refine ⟨?_, ?_⟩ <;> intro i <;> rfl)
    | (refine ⟨?_, ?_, ?_⟩ <;> intro i <;> rfl)
    | (refine ⟨?_, ?_⟩ <;> intro i _ <;> rfl)
    | (repeat' apply And.intro) <;> first | (intro i; rfl) | (intro i _; rfl) | (intro i h; exact absurd h (Nat.not_lt_zero i)) | (intro i; exact scpL_rowSet (by rfl) (by rfl)) | (intro i; exact scpL_rowEl (by kernel_rfl) _)
    | (intros; (repeat' apply And.intro) <;> intros <;> first | rfl | (exact absurd (by assumption) (Nat.not_lt_zero _)))
    | omega
    | decide
theorem n_e30_0_28 (p : P30_0) (s : S30_0) : e30_0_28 p s := by
  unfold e30_0_28
  first
    | (intros; rfl)
    | (intro i; rfl)
    | (intro i _; rfl)
    | (intro _ i; rfl)
    | (intro _ i _; rfl)
    | (refine ⟨?_, ?_⟩ <;> intro i <;> rfl)
    | (refine ⟨?_, ?_, ?_⟩ <;> intro i <;> rfl)
    | (refine ⟨?_, ?_⟩ <;> intro i _ <;> rfl)
    | (repeat' apply And.intro) <;> first | (intro i; rfl) | (intro i _; rfl) | (intro i h; exact absurd h (Nat.not_lt_zero i)) | (intro i; exact scpL_rowSet (by rfl) (by rfl)) | (intro i; exact scpL_rowEl (by kernel_rfl) _)
    | (intros; (repeat' apply And.intro) <;> intros <;> first | rfl | (exact absurd (by assumption) (Nat.not_lt_zero _)))
    | omega
    | decide
theorem n_e30_0_30 (p : P30_0) (s : S30_0) : e30_0_30 p s := by
  unfold e30_0_30
  first
    | (intros; rfl)
    | (intro i; rfl)
    | (intro i _; rfl)
    | (intro _ i; rfl)
    | (intro _ i _; rfl)
    | (refine ⟨?_, ?_⟩ <;> intro i <;> rfl)
    | (refine ⟨?_, ?_, ?_⟩ <;> intro i <;> rfl)
    | (refine ⟨?_, ?_⟩ <;> intro i _ <;> rfl)
    | (repeat' apply And.intro) <;> first | (intro i; rfl) | (intro i _; rfl) | (intro i h; exact absurd h (Nat.not_lt_zero i)) | (intro i; exact scpL_rowSet (by rfl) (by rfl)) | (intro i; exact scpL_rowEl (by kernel_rfl) _)
    | (intros; (repeat' apply And.intro) <;> intros <;> first | rfl | (exact absurd (by assumption) (Nat.not_lt_zero _)))
    | omega
    | decide
noncomputable def rf30_0 (p : P30_0) (s : S30_0) : Tr (Rs th.R S30_0) := (Tr.ite (e30_0_0 p s) (Tr.need (e30_0_1 p s) (Tr.leaf (Rs.out (Ex.exit ((0:Nat))) (none :: (none :: (none :: (none :: (none :: (List.cons (Option.some (SV.slc (3) ((2 : Nat)) ((0:Nat)) (s.n5))) (none :: (none :: (none :: (none :: (none :: (none :: (none :: (none :: (none :: (none :: (none :: (none :: (none :: (none :: (none :: (none :: (none :: (none :: (none :: (none :: (none :: (none :: (none :: (none :: (none :: (none :: (none :: (none :: (none :: (none :: (none :: (none :: (none :: (none :: (none :: (none :: (none :: (none :: (none :: (none :: (none :: (none :: (none :: (none :: [])))))))))))))))))))))))))))))))))))))))))))))))))) (List.cons (HO.ro ((27 : Nat)) ((2 : Nat)) (p.N0) (fun j => (List.cons (SV.int (IntKind.u64) (p.F0_0 j)) (List.cons (SV.int (IntKind.u64) (p.F0_1 j)) []))) (p.O0)) (List.cons (HO.cells ((27 : Nat)) (List.cons (SV.int (IntKind.u64) (p.xh1_0)) (List.cons (SV.int (IntKind.u64) (p.xh1_1)) []))) (List.cons (HO.row ((27 : Nat)) ((2 : Nat)) (p.N2) (fun j => (List.cons (SV.int (IntKind.u64) (p.F2_0 j)) (List.cons (SV.int (IntKind.u64) (p.F2_1 j)) [])))) (List.cons (HO.row ((27 : Nat)) ((2 : Nat)) (s.N3) (fun j => (List.cons (SV.int (IntKind.u64) (s.F3_0 j)) (List.cons (SV.int (IntKind.u64) (s.F3_1 j)) [])))) []))))))) (Tr.need (e30_0_2 p s) (Tr.need (e30_0_3 p s) (Tr.need (e30_0_4 p s) (Tr.need (e30_0_5 p s) (Tr.need (e30_0_6 p s) (Tr.need (e30_0_7 p s) (Tr.need (e30_0_8 p s) (Tr.need (e30_0_9 p s) (Tr.need (e30_0_10 p s) (Tr.need (e30_0_11 p s) (Tr.need (e30_0_12 p s) (Tr.need (e30_0_13 p s) (Tr.ite (e30_0_14 p s) (Tr.need (e30_0_15 p s) (Tr.leaf (Rs.on (S30_0.mk ((e30_0_16 p s)) ((e30_0_17 p s)) ((e30_0_16 p s)) ((fun j => (e30_0_18 p s j))) ((fun j => (e30_0_19 p s j))))))) (Tr.ite (e30_0_20 p s) (Tr.ite (e30_0_21 p s) (Tr.need (e30_0_22 p s) (Tr.leaf (Rs.on (S30_0.mk ((e30_0_23 p s)) ((e30_0_17 p s)) ((e30_0_23 p s)) ((fun j => (e30_0_24 p s j))) ((fun j => (e30_0_25 p s j))))))) (Tr.need (e30_0_26 p s) (Tr.leaf (Rs.on (S30_0.mk ((e30_0_16 p s)) ((e30_0_17 p s)) ((e30_0_16 p s)) ((fun j => (e30_0_18 p s j))) ((fun j => (e30_0_27 p s j)))))))) (Tr.ite (e30_0_21 p s) (Tr.need (e30_0_28 p s) (Tr.leaf (Rs.on (S30_0.mk ((e30_0_16 p s)) ((e30_0_17 p s)) ((e30_0_16 p s)) ((fun j => (e30_0_29 p s j))) ((fun j => (e30_0_19 p s j))))))) (Tr.need (e30_0_30 p s) (Tr.leaf (Rs.on (S30_0.mk (s.n5) ((e30_0_17 p s)) (s.N3) (s.F3_0) (s.F3_1)))))))))))))))))))))
noncomputable def r30_0 (p : P30_0) (s : S30_0) : Tr (Rs th.R S30_0) := (Tr.ite (e30_0_0 p s) (Tr.leaf (Rs.out (Ex.exit ((0:Nat))) (none :: (none :: (none :: (none :: (none :: (List.cons (Option.some (SV.slc (3) ((2 : Nat)) ((0:Nat)) (s.n5))) (none :: (none :: (none :: (none :: (none :: (none :: (none :: (none :: (none :: (none :: (none :: (none :: (none :: (none :: (none :: (none :: (none :: (none :: (none :: (none :: (none :: (none :: (none :: (none :: (none :: (none :: (none :: (none :: (none :: (none :: (none :: (none :: (none :: (none :: (none :: (none :: (none :: (none :: (none :: (none :: (none :: (none :: (none :: (none :: [])))))))))))))))))))))))))))))))))))))))))))))))))) (List.cons (HO.ro ((27 : Nat)) ((2 : Nat)) (p.N0) (fun j => (List.cons (SV.int (IntKind.u64) (p.F0_0 j)) (List.cons (SV.int (IntKind.u64) (p.F0_1 j)) []))) (p.O0)) (List.cons (HO.cells ((27 : Nat)) (List.cons (SV.int (IntKind.u64) (p.xh1_0)) (List.cons (SV.int (IntKind.u64) (p.xh1_1)) []))) (List.cons (HO.row ((27 : Nat)) ((2 : Nat)) (p.N2) (fun j => (List.cons (SV.int (IntKind.u64) (p.F2_0 j)) (List.cons (SV.int (IntKind.u64) (p.F2_1 j)) [])))) (List.cons (HO.row ((27 : Nat)) ((2 : Nat)) (s.N3) (fun j => (List.cons (SV.int (IntKind.u64) (s.F3_0 j)) (List.cons (SV.int (IntKind.u64) (s.F3_1 j)) [])))) [])))))) (Tr.need (e30_0_2 p s) (Tr.need (e30_0_3 p s) (Tr.need (e30_0_4 p s) (Tr.need (e30_0_7 p s) (Tr.need (e30_0_10 p s) (Tr.need (e30_0_13 p s) (Tr.ite (e30_0_14 p s) (Tr.leaf (Rs.on (S30_0.mk ((e30_0_16 p s)) ((e30_0_17 p s)) ((e30_0_16 p s)) ((fun j => (e30_0_18 p s j))) ((fun j => (e30_0_19 p s j)))))) (Tr.ite (e30_0_20 p s) (Tr.ite (e30_0_21 p s) (Tr.leaf (Rs.on (S30_0.mk ((e30_0_23 p s)) ((e30_0_17 p s)) ((e30_0_23 p s)) ((fun j => (e30_0_24 p s j))) ((fun j => (e30_0_25 p s j)))))) (Tr.leaf (Rs.on (S30_0.mk ((e30_0_16 p s)) ((e30_0_17 p s)) ((e30_0_16 p s)) ((fun j => (e30_0_18 p s j))) ((fun j => (e30_0_27 p s j))))))) (Tr.ite (e30_0_21 p s) (Tr.leaf (Rs.on (S30_0.mk ((e30_0_16 p s)) ((e30_0_17 p s)) ((e30_0_16 p s)) ((fun j => (e30_0_29 p s j))) ((fun j => (e30_0_19 p s j)))))) (Tr.leaf (Rs.on (S30_0.mk (s.n5) ((e30_0_17 p s)) (s.N3) (s.F3_0) (s.F3_1))))))))))))))
noncomputable def E30_0 : St th.R → Out th := evCode th Try.prog (auto th Try.prog nice24n [] 20) (autoH [] [(8, 3)] [38] [4, 5, 43, 49] : Hints th) (lpAt Try.prog 30 0)
theorem B30_0 : CodeSound th Try.prog (lpAt Try.prog 30 0) E30_0 := evCode_sound (T := th) (P := Try.prog) (tbl := (auto th Try.prog nice24n [] 20)) (auto_sound (nice := nice24n) (us := []) nok24n 20) (autoH [] [(8, 3)] [38] [4, 5, 43, 49] : Hints th) _ (LoopsOk_mem (fun _ => rfl) _ fun b hb L hL => by cases hL)
noncomputable def L30_0 : St th.R → Out th := loopL d30_0 ofV30_0 r30_0
theorem h1_30_0 (p : P30_0) (s : S30_0) : bld d30_0.tm (toV30_0 p s) = some (I30_0 p s) := by kernel_rfl
theorem h2_30_0 (l : List (Vl th.R)) (p : P30_0) (s : S30_0) (h : ofV30_0 l = some (p, s)) : l = toV30_0 p s := by
  unfold ofV30_0 at h
  split at h
  · cases h; rfl
  · cases h
theorem h3_30_0 (p : P30_0) (s : S30_0) : cvE d30_0 (E30_0 (I30_0 p s)) = some ((rf30_0 p s).map (Rs.map (toV30_0 p))) := by kernel_rfl
theorem h3g_30_0 (p : P30_0) (s : S30_0) : (rf30_0 p s).get = (r30_0 p s).get := by kernel_rfl
theorem h4_30_0 (p : P30_0) (s s1 : S30_0) : outH d30_0.dirt d30_0.n0 (r30_0 p s) = repH (maskH d30_0.dirt 0 d30_0.n0 (I30_0 p s1).heap) (r30_0 p s) := by kernel_rfl
theorem ls30_0 : CodeSound th Try.prog (.loop (lpAt Try.prog 30 0)) L30_0 := loopL_sound B30_0 d30_0 I30_0 toV30_0 (by kernel_rfl) h1_30_0 h2_30_0
  (fun p s => ⟨(rf30_0 p s).map (Rs.map (toV30_0 p)), h3_30_0 p s, fun h => by
    rw [Tr.map_ok]
    unfold r30_0 at h; unfold rf30_0
    simp only [Tr.ok, n_e30_0_1, n_e30_0_5, n_e30_0_6, n_e30_0_8, n_e30_0_9, n_e30_0_11, n_e30_0_12, n_e30_0_15, n_e30_0_22, n_e30_0_26, n_e30_0_28, n_e30_0_30, true_and, and_true, forall_const, implies_true] at h ⊢
    try exact h, by rw [Tr.map_get, h3g_30_0 p s]⟩) h4_30_0
theorem ok30 : LoopsOk th Try.prog (autoH [(3, L30_0)] [(8, 3)] [38] [4, 5, 43, 49] : Hints th) (bodyOf Try.prog 30) := autoH_ok (bs := [lpAt Try.prog 30 0, lpAt Try.prog 30 1]) (by kernel_rfl) fun b hb L hL => by
  simp only [List.mem_cons, List.not_mem_nil, or_false] at hb
  rcases hb with rfl | rfl
  · have e : lookL [(3, L30_0)] (firstReg (lpAt Try.prog 30 0)) = some L30_0 := by kernel_rfl
    rw [e] at hL; cases hL
    exact ls30_0
  · have e : lookL [(3, L30_0)] (firstReg (lpAt Try.prog 30 1)) = (none : Option (St th.R → Out th)) := by kernel_rfl
    rw [e] at hL; cases hL
noncomputable def f30_0 (v : V30) : (Prop) := ∀ (i : Nat), scpL (0:Nat) ((fun (j : Nat) => [SV.int IntKind.u64 (v.F j), SV.int IntKind.u64 (v.G j)]) i) = true
noncomputable def f30_1 (v : V30) : (Prop) := ∀ (i : Nat), i < v.M → (fun (j : Nat) => [SV.int IntKind.u64 (v.F j), SV.int IntKind.u64 (v.G j)]) i = elC (fun (j : Nat) => [SV.int IntKind.u64 (v.F j), SV.int IntKind.u64 (v.G j)]) (0:Nat) [Ck.int IntKind.u64, Ck.int IntKind.u64] i
noncomputable def f30_2 (v : V30) : (Prop) := pre24 (V24.mk v.L v.M v.ob v.F v.G)
noncomputable def f30_3 (v : V30) : (Prop) := (∀ (i : Nat), scpL (0:Nat) ((fun (j : Nat) => [SV.int IntKind.u64 (v.F j), SV.int IntKind.u64 (v.G j)]) i) = true) ∧ ∀ (i : Nat), scpL (0:Nat) ((fun (j : Nat) => [SV.int IntKind.u64 (So.gt (UN (sp v.F v.G) v.L) j).fst, SV.int IntKind.u64 (So.gt (UN (sp v.F v.G) v.L) j).snd]) i) = true
noncomputable def f30_4 (v : V30) : (Prop) := (∀ (i : Nat), i < v.M → (fun (j : Nat) => [SV.int IntKind.u64 (v.F j), SV.int IntKind.u64 (v.G j)]) i = elC (fun (j : Nat) => [SV.int IntKind.u64 (v.F j), SV.int IntKind.u64 (v.G j)]) (0:Nat) [Ck.int IntKind.u64, Ck.int IntKind.u64] i) ∧ (∀ (i : Nat), i < (UN (sp v.F v.G) v.L).length → (fun (j : Nat) => [SV.int IntKind.u64 (So.gt (UN (sp v.F v.G) v.L) j).fst, SV.int IntKind.u64 (So.gt (UN (sp v.F v.G) v.L) j).snd]) i = elC (fun (j : Nat) => [SV.int IntKind.u64 (So.gt (UN (sp v.F v.G) v.L) j).fst, SV.int IntKind.u64 (So.gt (UN (sp v.F v.G) v.L) j).snd]) (0:Nat) [Ck.int IntKind.u64, Ck.int IntKind.u64] i) ∧ ∀ (i : Nat), i < (0:Nat) → (fun (j : Nat) => []) i = elC (fun (j : Nat) => []) (0:Nat) [Ck.int IntKind.u64, Ck.int IntKind.u64] i
noncomputable def f30_5 (v : V30) : (Prop) := LT (r30_0 (P30_0.mk (UN (sp v.F v.G) v.L).length (↑(UN (sp v.F v.G) v.L).length : Int) v.M v.ob v.F v.G v.gf v.gt_ (UN (sp v.F v.G) v.L).length (fun (j : Nat) => (So.gt (UN (sp v.F v.G) v.L) j).fst) fun (j : Nat) => (So.gt (UN (sp v.F v.G) v.L) j).snd)) (S30_0.mk (0:Nat) (0 : Int) (0:Nat) (colI (fun (j : Nat) => []) (0:Nat)) (colI (fun (j : Nat) => []) (1 : Nat)))
noncomputable def f30z0 (v : V30) : S30_0 := lastS (r30_0 (P30_0.mk (UN (sp v.F v.G) v.L).length (↑(UN (sp v.F v.G) v.L).length : Int) v.M v.ob v.F v.G v.gf v.gt_ (UN (sp v.F v.G) v.L).length (fun (j : Nat) => (So.gt (UN (sp v.F v.G) v.L) j).fst) fun (j : Nat) => (So.gt (UN (sp v.F v.G) v.L) j).snd)) (S30_0.mk (0:Nat) (0 : Int) (0:Nat) (colI (fun (j : Nat) => []) (0:Nat)) (colI (fun (j : Nat) => []) (1 : Nat)))
noncomputable def f30_6 (v : V30) : (Nat) := (f30z0 v).n5
noncomputable def f30_7 (v : V30) : (Nat) := (UN (sp v.F v.G) v.L).length
noncomputable def f30_8 (v : V30) : Nat → (Int) := fun j => (So.gt (UN (sp v.F v.G) v.L) j).fst
noncomputable def f30_9 (v : V30) : Nat → (Int) := fun j => (So.gt (UN (sp v.F v.G) v.L) j).snd
noncomputable def f30_10 (v : V30) : (Nat) := (f30z0 v).N3
noncomputable def f30_11 (v : V30) : Nat → (Int) := fun j => (f30z0 v).F3_0 j
noncomputable def f30_12 (v : V30) : Nat → (Int) := fun j => (f30z0 v).F3_1 j
theorem n_f30_0 (v : V30) : f30_0 v := by
  unfold f30_0
  first
    | (intros; rfl)
    | (intro i; rfl)
    | (intro i _; rfl)
    | (intro _ i; rfl)
    | (intro _ i _; rfl)
    | (refine ⟨?_, ?_⟩ <;> intro i <;> rfl)
    | (refine ⟨?_, ?_, ?_⟩ <;> intro i <;> rfl)
    | (refine ⟨?_, ?_⟩ <;> intro i _ <;> rfl)
    | (repeat' apply And.intro) <;> first | (intro i; rfl) | (intro i _; rfl) | (intro i h; exact absurd h (Nat.not_lt_zero i)) | (intro i; exact scpL_rowSet (by rfl) (by rfl)) | (intro i; exact scpL_rowEl (by kernel_rfl) _)
    | (intros; (repeat' apply And.intro) <;> intros <;> first | rfl | (exact absurd (by assumption) (Nat.not_lt_zero _)))
    | omega
    | decide
theorem n_f30_1 (v : V30) : f30_1 v := by
  unfold f30_1
  first
    | (intros; rfl)
    | (intro i; rfl)
    | (intro i _; rfl)
    | (intro _ i; rfl)
    | (intro _ i _; rfl)
    | (refine ⟨?_, ?_⟩ <;> intro i <;> rfl)
    | (refine ⟨?_, ?_, ?_⟩ <;> intro i <;> rfl)
    | (refine ⟨?_, ?_⟩ <;> intro i _ <;> rfl)
    | (repeat' apply And.intro) <;> first | (intro i; rfl) | (intro i _; rfl) | (intro i h; exact absurd h (Nat.not_lt_zero i)) | (intro i; exact scpL_rowSet (by rfl) (by rfl)) | (intro i; exact scpL_rowEl (by kernel_rfl) _)
    | (intros; (repeat' apply And.intro) <;> intros <;> first | rfl | (exact absurd (by assumption) (Nat.not_lt_zero _)))
    | omega
    | decide
theorem n_f30_3 (v : V30) : f30_3 v := by
  unfold f30_3
  first
    | (intros; rfl)
    | (intro i; rfl)
    | (intro i _; rfl)
    | (intro _ i; rfl)
    | (intro _ i _; rfl)
    | (refine ⟨?_, ?_⟩ <;> intro i <;> rfl)
    | (refine ⟨?_, ?_, ?_⟩ <;> intro i <;> rfl)
    | (refine ⟨?_, ?_⟩ <;> intro i _ <;> rfl)
    | (repeat' apply And.intro) <;> first | (intro i; rfl) | (intro i _; rfl) | (intro i h; exact absurd h (Nat.not_lt_zero i)) | (intro i; exact scpL_rowSet (by rfl) (by rfl)) | (intro i; exact scpL_rowEl (by kernel_rfl) _)
    | (intros; (repeat' apply And.intro) <;> intros <;> first | rfl | (exact absurd (by assumption) (Nat.not_lt_zero _)))
    | omega
    | decide
theorem n_f30_4 (v : V30) : f30_4 v := by
  unfold f30_4
  first
    | (intros; rfl)
    | (intro i; rfl)
    | (intro i _; rfl)
    | (intro _ i; rfl)
    | (intro _ i _; rfl)
    | (refine ⟨?_, ?_⟩ <;> intro i <;> rfl)
    | (refine ⟨?_, ?_, ?_⟩ <;> intro i <;> rfl)
    | (refine ⟨?_, ?_⟩ <;> intro i _ <;> rfl)
    | (repeat' apply And.intro) <;> first | (intro i; rfl) | (intro i _; rfl) | (intro i h; exact absurd h (Nat.not_lt_zero i)) | (intro i; exact scpL_rowSet (by rfl) (by rfl)) | (intro i; exact scpL_rowEl (by kernel_rfl) _)
    | (intros; (repeat' apply And.intro) <;> intros <;> first | rfl | (exact absurd (by assumption) (Nat.not_lt_zero _)))
    | omega
    | decide
noncomputable def ff30 (v : V30) : Tr (Fin th.R) := (Tr.need (f30_0 v) (Tr.need (f30_1 v) (Tr.need (f30_2 v) (Tr.need (f30_3 v) (Tr.need (f30_4 v) (Tr.need (f30_5 v) (Tr.leaf (Prod.mk (SV.slc ((3 : Nat)) ((2 : Nat)) ((0:Nat)) (f30_6 v)) (Prod.mk (List.cons (HO.ro ((27 : Nat)) ((2 : Nat)) (v.M) (fun j => (List.cons (SV.int (IntKind.u64) (v.F j)) (List.cons (SV.int (IntKind.u64) (v.G j)) []))) (v.ob)) (List.cons (HO.cells ((27 : Nat)) (List.cons (SV.int (IntKind.u64) (v.gf)) (List.cons (SV.int (IntKind.u64) (v.gt_)) []))) (List.cons (HO.row ((27 : Nat)) ((2 : Nat)) (f30_7 v) (fun j => (List.cons (SV.int (IntKind.u64) (f30_8 v j)) (List.cons (SV.int (IntKind.u64) (f30_9 v j)) [])))) (List.cons (HO.row ((27 : Nat)) ((2 : Nat)) (f30_10 v) (fun j => (List.cons (SV.int (IntKind.u64) (f30_11 v j)) (List.cons (SV.int (IntKind.u64) (f30_12 v j)) [])))) [])))) [])))))))))
noncomputable def f30 (v : V30) : Tr (Fin th.R) := (Tr.need (f30_2 v) (Tr.need (f30_5 v) (Tr.leaf (Prod.mk (SV.slc ((3 : Nat)) ((2 : Nat)) ((0:Nat)) (f30_6 v)) (Prod.mk (List.cons (HO.ro ((27 : Nat)) ((2 : Nat)) (v.M) (fun j => (List.cons (SV.int (IntKind.u64) (v.F j)) (List.cons (SV.int (IntKind.u64) (v.G j)) []))) (v.ob)) (List.cons (HO.cells ((27 : Nat)) (List.cons (SV.int (IntKind.u64) (v.gf)) (List.cons (SV.int (IntKind.u64) (v.gt_)) []))) (List.cons (HO.row ((27 : Nat)) ((2 : Nat)) (f30_7 v) (fun j => (List.cons (SV.int (IntKind.u64) (f30_8 v j)) (List.cons (SV.int (IntKind.u64) (f30_9 v j)) [])))) (List.cons (HO.row ((27 : Nat)) ((2 : Nat)) (f30_10 v) (fun j => (List.cons (SV.int (IntKind.u64) (f30_11 v j)) (List.cons (SV.int (IntKind.u64) (f30_12 v j)) [])))) [])))) ([]))))))
noncomputable def C30 : CF th.R := fnC d30 ofV30 (f30 )
theorem q30 (v : V30) : (evFn th Try.prog (auto th Try.prog nice24n [] 20) (autoH [(3, L30_0)] [(8, 3)] [38] [4, 5, 43, 49] : Hints th) 30) (A30 v) (H30 v) = some (ff30 v) := by kernel_rfl
theorem qg30 (v : V30) : ((ff30 v).map (setD [])).get = (f30 v).get := by kernel_rfl
theorem qd30 (v : V30) : allD 1 [] (ff30 v) = true := by kernel_rfl
theorem s30 : Sound Try.prog th 30 (C30 ) := fnC_sound (evFn_sound' (T := th) (P := Try.prog) (tbl := (auto th Try.prog nice24n [] 20)) (auto_sound (nice := nice24n) (us := []) nok24n 20) (H := (autoH [(3, L30_0)] [(8, 3)] [38] [4, 5, 43, 49] : Hints th)) (k := 30) (fnLoops ok30)) d30 A30 H30 toV30 (by kernel_rfl) (fun v => by kernel_rfl)
  (fun l v h => by
    unfold ofV30 at h
    split at h
    · cases h; rfl
    · cases h)
  [] (fun v => ⟨ff30 v, q30 v, fun h => by
    unfold f30 at h; unfold ff30
    simp only [Tr.ok, n_f30_0, n_f30_1, n_f30_3, n_f30_4, true_and, and_true, forall_const, implies_true] at h ⊢
    try exact h, qg30 v, qd30 v⟩)
theorem qdd30 (v : V30) : (f30 v).get.2.2 = [] := by
  rw [← qg30, Tr.map_get]; rfl
end Go.Sx.S

section
namespace Go.Sx.So
/-- What is left of a span without another one. -/
def cut (g s : Sp) : List Sp := if mts s g then (if s.1 < g.1 then [(s.1, g.1)] else []) ++ (if g.2 < s.2 then [(g.2, s.2)] else []) else [s]
def ctl (g : Sp) (l : List Sp) : List Sp := l.flatMap (cut g)
theorem ctl_snoc (g : Sp) (l : List Sp) (x : Sp) : ctl g (l ++ [x]) = ctl g l ++ cut g x := by simp [ctl, List.flatMap_append]
theorem mem_cut {g s x : Sp} : x ∈ cut g s ↔ (mts s g ∧ ((s.1 < g.1 ∧ x = (s.1, g.1)) ∨ (g.2 < s.2 ∧ x = (g.2, s.2)))) ∨ (¬ mts s g ∧ x = s) := by
  unfold cut
  by_cases h : mts s g
  · rw [if_pos h]
    by_cases h1 : s.1 < g.1 <;> by_cases h2 : g.2 < s.2 <;> simp [h, h1, h2]
  · rw [if_neg h]; simp [h]
theorem cut_in {g s x : Sp} (hs : s.1 < s.2) (h : x ∈ cut g s) : x.1 < x.2 ∧ ¬ mts x g ∧ s.1 ≤ x.1 ∧ x.2 ≤ s.2 := by
  rcases mem_cut.1 h with ⟨⟨m1, m2, m3, m4⟩, ⟨h1, rfl⟩ | ⟨h1, rfl⟩⟩ | ⟨h1, rfl⟩
  · exact ⟨h1, fun q => by have := q.2.2.2; simp only at this; omega, Int.le_refl _, by simp only; omega⟩
  · exact ⟨h1, fun q => by have := q.2.2.1; simp only at this; omega, by simp only; omega, Int.le_refl _⟩
  · exact ⟨hs, h1, Int.le_refl _, Int.le_refl _⟩
theorem cut_has {g s : Sp} (hs : s.1 < s.2) (a : Int) : (∃ x, x ∈ cut g s ∧ x.1 ≤ a ∧ a < x.2) ↔ (s.1 ≤ a ∧ a < s.2) ∧ ¬ (g.1 ≤ a ∧ a < g.2) := by
  by_cases hm : mts s g
  · have hm' := hm
    obtain ⟨m1, m2, m3, m4⟩ := hm'
    constructor
    · rintro ⟨x, hx, h1, h2⟩
      rcases mem_cut.1 hx with ⟨_, ⟨h, rfl⟩ | ⟨h, rfl⟩⟩ | ⟨h, rfl⟩
      · simp only at h1 h2; omega
      · simp only at h1 h2; omega
      · exact absurd hm h
    · intro h
      by_cases q : a < g.1
      · exact ⟨(s.1, g.1), mem_cut.2 (.inl ⟨hm, .inl ⟨by omega, rfl⟩⟩), by simp only; omega, q⟩
      · exact ⟨(g.2, s.2), mem_cut.2 (.inl ⟨hm, .inr ⟨by omega, rfl⟩⟩), by simp only; omega, by simp only; omega⟩
  · constructor
    · rintro ⟨x, hx, h1, h2⟩
      rcases mem_cut.1 hx with ⟨h, _⟩ | ⟨h, rfl⟩
      · exact absurd h hm
      · refine ⟨⟨h1, h2⟩, fun q => hm ⟨hs, by omega, by omega, by omega⟩⟩
    · rintro ⟨h, _⟩
      exact ⟨s, mem_cut.2 (.inr ⟨hm, rfl⟩), h⟩
theorem ctl_has {g : Sp} {u : List Sp} (hr : ∀ x, x ∈ u → x.1 < x.2) (a : Int) : Hs (ctl g u) a ↔ Hs u a ∧ ¬ (g.1 ≤ a ∧ a < g.2) := by
  constructor
  · rintro ⟨x, hx, h⟩
    obtain ⟨s, hs, hx⟩ := List.mem_flatMap.1 hx
    have := (cut_has (g := g) (hr s hs) a).1 ⟨x, hx, h⟩
    exact ⟨⟨s, hs, this.1⟩, this.2⟩
  · rintro ⟨⟨s, hs, h⟩, hg⟩
    obtain ⟨x, hx, h⟩ := (cut_has (g := g) (hr s hs) a).2 ⟨h, hg⟩
    exact ⟨x, List.mem_flatMap.2 ⟨s, hs, hx⟩, h⟩
theorem ctl_each {g : Sp} {u : List Sp} (hr : ∀ x, x ∈ u → x.1 < x.2) (x : Sp) (hx : x ∈ ctl g u) : x.1 < x.2 ∧ ¬ mts x g := by
  obtain ⟨s, hs, hx⟩ := List.mem_flatMap.1 hx
  have := cut_in (hr s hs) hx
  exact ⟨this.1, this.2.1⟩
theorem ctl_ap {g : Sp} {u : List Sp} (hr : ∀ x, x ∈ u → x.1 < x.2) (h : u.Pairwise fun x y => x.2 < y.1) : Ap (ctl g u) := by
  refine ⟨fun x hx => (ctl_each hr x hx).1, ?_⟩
  have : (ctl g u).Pairwise fun x y => x.2 ≤ y.1 := by
    refine List.pairwise_flatMap.2 ⟨fun s hs => ?_, List.Pairwise.imp_of_mem ?_ h⟩
    · unfold cut
      split
      · rename_i hm
        have := hm.2.1
        refine List.pairwise_append.2 ⟨?_, ?_, ?_⟩
        · split
          · exact List.pairwise_singleton _ _
          · exact List.Pairwise.nil
        · split
          · exact List.pairwise_singleton _ _
          · exact List.Pairwise.nil
        · intro a ha b hb
          split at ha
          · split at hb
            · cases List.mem_singleton.1 ha
              cases List.mem_singleton.1 hb
              simp only; omega
            · cases hb
          · cases ha
      · exact List.pairwise_singleton _ _
    · intro s t hs ht hst x hx y hy
      have h1 := cut_in (hr s hs) hx
      have h2 := cut_in (hr t ht) hy
      omega
  exact this.imp fun h1 h2 => by have := h2.2.2.2; omega
theorem cut_len (g s : Sp) : (cut g s).length ≤ 2 := by
  unfold cut
  split
  · split <;> split <;> simp
  · simp
theorem ctl_len (g : Sp) : ∀ u : List Sp, (ctl g u).length ≤ 2 * u.length
  | [] => Nat.zero_le _
  | x :: u => by
    have h1 := ctl_len g u
    have h2 := cut_len g x
    have : ctl g (x :: u) = cut g x ++ ctl g u := by simp [ctl]
    rw [this, List.length_append, List.length_cons]
    omega
end Go.Sx.So

end

