/- Contracts of the functions of this seat, each by the executor and the kernel; part 4. Their conditions stand in each. -/
import Derived.Test.YtoldganbhlgboaaC3
set_option linter.unusedVariables false
set_option linter.unusedSimpArgs false
set_option linter.unnecessarySimpa false
namespace Go.Sx.M
open Go Go.Sx Go.Proofs Go.RowKit
set_option maxRecDepth 100000
structure V87 where
  z : Int
  L : Nat
  at_ : Int
  n : Int
  Q : Nat
  F : Nat → Int
  G : Nat → Int
def A87 (v : V87) : List SV := [.agg [.int .u64 v.z, .slc 0 2 0 v.L], .int .u64 v.at_, .int .u64 v.n]
def H87 (v : V87) : List (HO th.R) := [.row 195 2 v.Q (fun j => [.int .u64 (v.F j), .int .u64 (v.G j)])]
def toV87 (v : V87) : List (Vl th.R) := [.i v.z, .n v.L, .i v.at_, .i v.n, .n v.Q, .c v.F, .c v.G]
def ofV87 : List (Vl th.R) → Option V87
  | [.i z, .n L, .i at_, .i n, .n Q, .c F, .c G] => some ⟨z, L, at_, n, Q, F, G⟩
  | _ => none
def d87 : Ft := ⟨[.agg [.int .u64, .slc0 0 2], .int .u64, .int .u64], [.rowc 195 [.int .u64, .int .u64]]⟩
structure P87_0 where
  x1 : Int
  x2 : Int
  N0 : Nat
  F0_0 : Nat → Int
  F0_1 : Nat → Int
  xh1_0 : Int
  nh1_1 : Nat
  xh2_0 : Int
structure S87_0 where
  n8 : Nat
  x9 : Int
  N3 : Nat
  F3_0 : Nat → Int
  F3_1 : Nat → Int
noncomputable instance : Inhabited S87_0 := ⟨⟨0, 0, 0, fun _ => 0, fun _ => 0⟩⟩
def I87_0 (p : P87_0) (s : S87_0) : St th.R := ⟨[none, some (.int .u64 p.x1), some (.int .u64 p.x2), some (.ptr 1 0), none, none, some (.ptr 2 0), none, some (.slc 3 2 0 s.n8), some (.int .i64 s.x9), none, none, none, none, none, none, none, none, none, none, none, none, none, none, none, none, none, none, none, none, none, none, none, none, none, none, none, none, none, none, none, none, none, none, none, none, none, none, none, none, none, none, none, none, none, none, none, none, none, none, none, none, none, none, none, none, none, none, none, none], [.row 195 2 p.N0 (fun j => [.int .u64 (p.F0_0 j), .int .u64 (p.F0_1 j)]), .cells 126 [.int .u64 p.xh1_0, .slc 0 2 0 p.nh1_1], .cells 126 [.int .u64 p.xh2_0, .nils], .row 195 2 s.N3 (fun j => [.int .u64 (s.F3_0 j), .int .u64 (s.F3_1 j)])], [], []⟩
def d87_0 : Lp := ⟨⟨70, [(1, .int .u64), (2, .int .u64), (3, .ptr 1 0), (6, .ptr 2 0), (8, .slc0 3 2), (9, .int .i64)], [.rowc 195 [.int .u64, .int .u64], .cells 126 [.int .u64, .slc0 0 2], .cells 126 [.int .u64, .nils], .rowc 195 [.int .u64, .int .u64]]⟩, [⟨8, 195, 2⟩], 3, [], [3, 6, 8], []⟩
def toV87_0 (p : P87_0) (s : S87_0) : List (Vl th.R) := [.i p.x1, .i p.x2, .n s.n8, .i s.x9, .n p.N0, .c p.F0_0, .c p.F0_1, .i p.xh1_0, .n p.nh1_1, .i p.xh2_0, .n s.N3, .c s.F3_0, .c s.F3_1]
def ofV87_0 : List (Vl th.R) → Option (P87_0 × S87_0)
  | [.i x1, .i x2, .n n8, .i x9, .n N0, .c F0_0, .c F0_1, .i xh1_0, .n nh1_1, .i xh2_0, .n N3, .c F3_0, .c F3_1] => some (⟨x1, x2, N0, F0_0, F0_1, xh1_0, nh1_1, xh2_0⟩, ⟨n8, x9, N3, F3_0, F3_1⟩)
  | _ => none
noncomputable def e87_0_16 (p : P87_0) (s : S87_0) : (Nat) := (0:Nat) + s.x9.toNat
noncomputable def e87_0_17 (p : P87_0) (s : S87_0) : (Int) := p.F0_0 (e87_0_16 p s)
noncomputable def e87_0_18 (p : P87_0) (s : S87_0) : (Bool) := decide (e87_0_17 p s < p.x1)
noncomputable def e87_0_19 (p : P87_0) (s : S87_0) : (Int) := IntKind.u64.wrap (p.x1 + p.x2)
noncomputable def e87_0_20 (p : P87_0) (s : S87_0) : (Bool) := cnd (e87_0_18 p s) true (decide (e87_0_17 p s ≥ e87_0_19 p s))
noncomputable def e87_0_21 (p : P87_0) (s : S87_0) : (Nat) := s.n8 + (1:Nat)
noncomputable def e87_0_0 (p : P87_0) (s : S87_0) : (Bool) := cnd (decide (s.x9 < (↑p.nh1_1:Int))) false true
noncomputable def e87_0_1 (p : P87_0) (s : S87_0) : (Prop) := (∀ (i:Nat), scpL (0:Nat) ((fun (j:Nat) => [SV.int IntKind.u64 (p.F0_0 j), SV.int IntKind.u64 (p.F0_1 j)]) i) = true) ∧ ∀ (i:Nat), scpL (0:Nat) ((fun (j:Nat) => [SV.int IntKind.u64 (s.F3_0 j), SV.int IntKind.u64 (s.F3_1 j)]) i) = true
noncomputable def e87_0_2 (p : P87_0) (s : S87_0) : (Prop) := (0:Int) ≤ s.x9 ∧ s.x9 < (↑p.nh1_1:Int)
noncomputable def e87_0_3 (p : P87_0) (s : S87_0) : (Prop) := e87_0_16 p s < p.N0
noncomputable def e87_0_4 (p : P87_0) (s : S87_0) : (Prop) := cnd (!e87_0_18 p s) true false = true → (0:Int) ≤ s.x9 ∧ s.x9 < (↑p.nh1_1:Int)
noncomputable def e87_0_5 (p : P87_0) (s : S87_0) : (Prop) := cnd (!e87_0_18 p s) true false = true → e87_0_16 p s < p.N0
noncomputable def e87_0_6 (p : P87_0) (s : S87_0) : (Prop) := e87_0_20 p s = true → (0:Int) ≤ s.x9 ∧ s.x9 < (↑p.nh1_1:Int)
noncomputable def e87_0_7 (p : P87_0) (s : S87_0) : (Prop) := e87_0_20 p s = true → e87_0_16 p s < p.N0
noncomputable def e87_0_8 (p : P87_0) (s : S87_0) : (Prop) := e87_0_20 p s = true → (0:Nat) = (0:Nat) ∧ s.n8 ≤ s.N3 ∧ (1:Nat) ≤ (1:Nat) ∧ e87_0_21 p s * (4096:Nat) ≤ (140737488355328:Nat) ∧ e87_0_21 p s ≤ (9223372036854775807:Nat)
noncomputable def e87_0_9 (p : P87_0) (s : S87_0) : (Bool) := e87_0_20 p s
noncomputable def e87_0_10 (p : P87_0) (s : S87_0) : (Prop) := ((∀ (i:Nat), scpL (0:Nat) ((fun (j:Nat) => [SV.int IntKind.u64 (p.F0_0 j), SV.int IntKind.u64 (p.F0_1 j)]) i) = true) ∧ ∀ (i:Nat), scpL (0:Nat) ((fun (i:Nat) => rowSet (i.blt s.n8) ((fun (j:Nat) => [SV.int IntKind.u64 (s.F3_0 j), SV.int IntKind.u64 (s.F3_1 j)]) i) (rowEl (1:Nat) (2:Nat) (setMany (List.map (fun (i:Nat) => [SV.int IntKind.u64 (0:Int), SV.int IntKind.u64 (0:Int)].getD (i % (2:Nat)) Inhabited.default) (List.range (2:Nat))) (0:Nat) (SV.agg (List.take (2:Nat) (List.drop (0:Nat) ((fun (j:Nat) => [SV.int IntKind.u64 (p.F0_0 j), SV.int IntKind.u64 (p.F0_1 j)]) (e87_0_16 p s))))).cells) ((0:Nat) + (i - s.n8)))) i) = true) ∧ (∀ (i:Nat), i < p.N0 → (fun (j:Nat) => [SV.int IntKind.u64 (p.F0_0 j), SV.int IntKind.u64 (p.F0_1 j)]) i = elC (fun (j:Nat) => [SV.int IntKind.u64 (p.F0_0 j), SV.int IntKind.u64 (p.F0_1 j)]) (0:Nat) [Ck.int IntKind.u64, Ck.int IntKind.u64] i) ∧ ∀ (i:Nat), i < e87_0_21 p s → (fun (i:Nat) => rowSet (i.blt s.n8) ((fun (j:Nat) => [SV.int IntKind.u64 (s.F3_0 j), SV.int IntKind.u64 (s.F3_1 j)]) i) (rowEl (1:Nat) (2:Nat) (setMany (List.map (fun (i:Nat) => [SV.int IntKind.u64 (0:Int), SV.int IntKind.u64 (0:Int)].getD (i % (2:Nat)) Inhabited.default) (List.range (2:Nat))) (0:Nat) (SV.agg (List.take (2:Nat) (List.drop (0:Nat) ((fun (j:Nat) => [SV.int IntKind.u64 (p.F0_0 j), SV.int IntKind.u64 (p.F0_1 j)]) (e87_0_16 p s))))).cells) ((0:Nat) + (i - s.n8)))) i = elC (fun (i:Nat) => rowSet (i.blt s.n8) ((fun (j:Nat) => [SV.int IntKind.u64 (s.F3_0 j), SV.int IntKind.u64 (s.F3_1 j)]) i) (rowEl (1:Nat) (2:Nat) (setMany (List.map (fun (i:Nat) => [SV.int IntKind.u64 (0:Int), SV.int IntKind.u64 (0:Int)].getD (i % (2:Nat)) Inhabited.default) (List.range (2:Nat))) (0:Nat) (SV.agg (List.take (2:Nat) (List.drop (0:Nat) ((fun (j:Nat) => [SV.int IntKind.u64 (p.F0_0 j), SV.int IntKind.u64 (p.F0_1 j)]) (e87_0_16 p s))))).cells) ((0:Nat) + (i - s.n8)))) (0:Nat) [Ck.int IntKind.u64, Ck.int IntKind.u64] i
noncomputable def e87_0_11 (p : P87_0) (s : S87_0) : (Nat) := e87_0_21 p s
noncomputable def e87_0_12 (p : P87_0) (s : S87_0) : (Int) := IntKind.i64.wrap (s.x9 + (1:Int))
noncomputable def e87_0_13 (p : P87_0) (s : S87_0) : Nat → (Int) := fun (j:Nat) => cnd (j.blt s.n8) (s.F3_0 j) (e87_0_17 p s)
noncomputable def e87_0_14 (p : P87_0) (s : S87_0) : Nat → (Int) := fun (j:Nat) => cnd (j.blt s.n8) (s.F3_1 j) (p.F0_1 (e87_0_16 p s))
noncomputable def e87_0_15 (p : P87_0) (s : S87_0) : (Prop) := ((∀ (i:Nat), scpL (0:Nat) ((fun (j:Nat) => [SV.int IntKind.u64 (p.F0_0 j), SV.int IntKind.u64 (p.F0_1 j)]) i) = true) ∧ ∀ (i:Nat), scpL (0:Nat) ((fun (j:Nat) => [SV.int IntKind.u64 (s.F3_0 j), SV.int IntKind.u64 (s.F3_1 j)]) i) = true) ∧ (∀ (i:Nat), i < p.N0 → (fun (j:Nat) => [SV.int IntKind.u64 (p.F0_0 j), SV.int IntKind.u64 (p.F0_1 j)]) i = elC (fun (j:Nat) => [SV.int IntKind.u64 (p.F0_0 j), SV.int IntKind.u64 (p.F0_1 j)]) (0:Nat) [Ck.int IntKind.u64, Ck.int IntKind.u64] i) ∧ ∀ (i:Nat), i < s.N3 → (fun (j:Nat) => [SV.int IntKind.u64 (s.F3_0 j), SV.int IntKind.u64 (s.F3_1 j)]) i = elC (fun (j:Nat) => [SV.int IntKind.u64 (s.F3_0 j), SV.int IntKind.u64 (s.F3_1 j)]) (0:Nat) [Ck.int IntKind.u64, Ck.int IntKind.u64] i
theorem n_e87_0_1 (p : P87_0) (s : S87_0) : e87_0_1 p s := by
  unfold e87_0_1
  (repeat' first | intro _ | apply And.intro) <;> first | rfl | exact absurd (by assumption) (Nat.not_lt_zero _) | exact scpL_rowSet (by rfl) (by rfl) | exact scpL_rowEl (by kernel_rfl) _ | omega | decide
theorem n_e87_0_10 (p : P87_0) (s : S87_0) : e87_0_10 p s := by
  unfold e87_0_10
  (repeat' first | intro _ | apply And.intro) <;> first | rfl | exact absurd (by assumption) (Nat.not_lt_zero _) | exact scpL_rowSet (by rfl) (by rfl) | exact scpL_rowEl (by kernel_rfl) _ | omega | decide
theorem n_e87_0_15 (p : P87_0) (s : S87_0) : e87_0_15 p s := by
  unfold e87_0_15
  (repeat' first | intro _ | apply And.intro) <;> first | rfl | exact absurd (by assumption) (Nat.not_lt_zero _) | exact scpL_rowSet (by rfl) (by rfl) | exact scpL_rowEl (by kernel_rfl) _ | omega | decide
noncomputable def rf87_0 (p : P87_0) (s : S87_0) : Tr (Rs th.R S87_0) := (Tr.ite (e87_0_0 p s) (Tr.need (e87_0_1 p s) (Tr.leaf (Rs.out (Ex.exit (0:Nat)) [none, none, none, (some (SV.ptr (1:Nat) (0:Nat))), none, none, (some (SV.ptr (2:Nat) (0:Nat))), none, (some (SV.slc (3) (2:Nat) (0:Nat) (s.n8))), none, none, none, none, none, none, none, none, none, none, none, none, none, none, none, none, none, none, none, none, none, none, none, none, none, none, none, none, none, none, none, none, none, none, none, none, none, none, none, none, none, none, none, none, none, none, none, none, none, none, none, none, none, none, none, none, none, none, none, none, none] [(HO.row (195:Nat) (2:Nat) (p.N0) (fun j => [SV.int .u64 (p.F0_0 j), SV.int .u64 (p.F0_1 j)])), (HO.cells (126:Nat) [SV.int .u64 (p.xh1_0), (SV.slc (0:Nat) (2:Nat) (0:Nat) (p.nh1_1))]), (HO.cells (126:Nat) [SV.int .u64 (p.xh2_0), SV.nils]), (HO.row (195:Nat) (2:Nat) (s.N3) (fun j => [SV.int .u64 (s.F3_0 j), SV.int .u64 (s.F3_1 j)]))]))) (Tr.need (e87_0_2 p s) (Tr.need (e87_0_3 p s) (Tr.need (e87_0_4 p s) (Tr.need (e87_0_5 p s) (Tr.need (e87_0_6 p s) (Tr.need (e87_0_7 p s) (Tr.need (e87_0_8 p s) (Tr.ite (e87_0_9 p s) (Tr.need (e87_0_10 p s) (Tr.leaf (Rs.on (S87_0.mk ((e87_0_11 p s)) ((e87_0_12 p s)) ((e87_0_11 p s)) ((fun j => (e87_0_13 p s j))) ((fun j => (e87_0_14 p s j))))))) (Tr.need (e87_0_15 p s) (Tr.leaf (Rs.on (S87_0.mk (s.n8) ((e87_0_12 p s)) (s.N3) (s.F3_0) (s.F3_1))))))))))))))
noncomputable def r87_0 (p : P87_0) (s : S87_0) : Tr (Rs th.R S87_0) := (Tr.ite (e87_0_0 p s) (Tr.leaf (Rs.out (Ex.exit (0:Nat)) [none, none, none, (some (SV.ptr (1:Nat) (0:Nat))), none, none, (some (SV.ptr (2:Nat) (0:Nat))), none, (some (SV.slc (3) (2:Nat) (0:Nat) (s.n8))), none, none, none, none, none, none, none, none, none, none, none, none, none, none, none, none, none, none, none, none, none, none, none, none, none, none, none, none, none, none, none, none, none, none, none, none, none, none, none, none, none, none, none, none, none, none, none, none, none, none, none, none, none, none, none, none, none, none, none, none, none] [(HO.row (195:Nat) (2:Nat) (p.N0) (fun j => [SV.int .u64 (p.F0_0 j), SV.int .u64 (p.F0_1 j)])), (HO.cells (126:Nat) [SV.int .u64 (p.xh1_0), (SV.slc (0:Nat) (2:Nat) (0:Nat) (p.nh1_1))]), (HO.cells (126:Nat) [SV.int .u64 (p.xh2_0), SV.nils]), (HO.row (195:Nat) (2:Nat) (s.N3) (fun j => [SV.int .u64 (s.F3_0 j), SV.int .u64 (s.F3_1 j)]))])) (Tr.need (e87_0_2 p s) (Tr.need (e87_0_3 p s) (Tr.need (e87_0_4 p s) (Tr.need (e87_0_5 p s) (Tr.need (e87_0_6 p s) (Tr.need (e87_0_7 p s) (Tr.need (e87_0_8 p s) (Tr.ite (e87_0_9 p s) (Tr.leaf (Rs.on (S87_0.mk ((e87_0_11 p s)) ((e87_0_12 p s)) ((e87_0_11 p s)) ((fun j => (e87_0_13 p s j))) ((fun j => (e87_0_14 p s j)))))) (Tr.leaf (Rs.on (S87_0.mk (s.n8) ((e87_0_12 p s)) (s.N3) (s.F3_0) (s.F3_1)))))))))))))
noncomputable def E87_0 : St th.R → Out th := evCode th Try.prog (auto th Try.prog nice151n [] 20) (autoH [] [] [] [8, 67] : Hints th) (lpAt Try.prog 87 0)
theorem B87_0 : CodeSound th Try.prog (lpAt Try.prog 87 0) E87_0 := evCode_sound (T := th) (P := Try.prog) (tbl := (auto th Try.prog nice151n [] 20)) (auto_sound (nice := nice151n) (us := []) nok151n 20) (autoH [] [] [] [8, 67] : Hints th) _ (LoopsOk_mem (fun _ => rfl) _ fun b hb L hL => by cases hL)
noncomputable def L87_0 : St th.R → Out th := loopL d87_0 ofV87_0 r87_0
theorem h1_87_0 (p : P87_0) (s : S87_0) : bld d87_0.tm (toV87_0 p s) = some (I87_0 p s) := by kernel_rfl
theorem h2_87_0 (l : List (Vl th.R)) (p : P87_0) (s : S87_0) (h : ofV87_0 l = some (p, s)) : l = toV87_0 p s := by
  unfold ofV87_0 at h
  split at h
  · cases h; rfl
  · cases h
theorem h3_87_0 (p : P87_0) (s : S87_0) : cvE d87_0 (E87_0 (I87_0 p s)) = some ((rf87_0 p s).map (Rs.map (toV87_0 p))) := by kernel_rfl
theorem h3g_87_0 (p : P87_0) (s : S87_0) : (rf87_0 p s).get = (r87_0 p s).get := by kernel_rfl
theorem h4_87_0 (p : P87_0) (s s1 : S87_0) : outH d87_0.dirt d87_0.n0 (r87_0 p s) = repH (maskH d87_0.dirt 0 d87_0.n0 (I87_0 p s1).heap) (r87_0 p s) := by kernel_rfl
theorem ls87_0 : CodeSound th Try.prog (.loop (lpAt Try.prog 87 0)) L87_0 := loopL_sound B87_0 d87_0 I87_0 toV87_0 (by kernel_rfl) h1_87_0 h2_87_0
  (fun p s => ⟨(rf87_0 p s).map (Rs.map (toV87_0 p)), h3_87_0 p s, fun h => by
    rw [Tr.map_ok]
    unfold r87_0 at h; unfold rf87_0
    simp only [Tr.ok, n_e87_0_1, n_e87_0_10, n_e87_0_15, true_and, and_true, forall_const, implies_true] at h ⊢
    try exact h, by rw [Tr.map_get, h3g_87_0 p s]⟩) h4_87_0
theorem ok87 : LoopsOk th Try.prog (autoH [(7, L87_0)] [] [] [8, 67] : Hints th) (bodyOf Try.prog 87) := autoH_ok (bs := [lpAt Try.prog 87 0]) (by kernel_rfl) fun b hb L hL => by
  simp only [List.mem_cons, List.not_mem_nil, or_false] at hb
  rcases hb with rfl
  · have e : lookL [(7, L87_0)] (firstReg (lpAt Try.prog 87 0)) = some L87_0 := by kernel_rfl
    rw [e] at hL; cases hL
    exact ls87_0
noncomputable def f87_12 (v : V87) : (Bool) := v.at_.tmod (8:Int) != (0:Int)
noncomputable def f87_13 (v : V87) : (Bool) := cnd (f87_12 v) true (v.n.tmod (8:Int) != (0:Int))
noncomputable def f87_14 (v : V87) : (Int) := IntKind.u64.wrap (v.z - v.at_)
noncomputable def f87_15 (v : V87) : (Bool) := cnd (decide (v.at_ > v.z)) true (decide (v.n > f87_14 v))
noncomputable def f87_16 (v : V87) : (S87_0) := lastS (r87_0 (P87_0.mk v.at_ v.n v.Q v.F v.G v.z v.L (0:Int))) (S87_0.mk (0:Nat) (0:Int) (0:Nat) (colI (fun (j:Nat) => []) (0:Nat)) (colI (fun (j:Nat) => []) (1:Nat)))
noncomputable def f87_0 (v : V87) : (Prop) := (8:Int) ≠ (0:Int)
noncomputable def f87_1 (v : V87) : (Prop) := cnd (!f87_12 v) true false = true → (8:Int) ≠ (0:Int)
noncomputable def f87_2 (v : V87) : (Prop) := f87_13 v = false → f87_15 v = false → (∀ (i:Nat), i < v.Q → (fun (j:Nat) => [SV.int IntKind.u64 (v.F j), SV.int IntKind.u64 (v.G j)]) i = elC (fun (j:Nat) => [SV.int IntKind.u64 (v.F j), SV.int IntKind.u64 (v.G j)]) (0:Nat) [Ck.int IntKind.u64, Ck.int IntKind.u64] i) ∧ ∀ (i:Nat), i < (0:Nat) → (fun (j:Nat) => []) i = elC (fun (j:Nat) => []) (0:Nat) [Ck.int IntKind.u64, Ck.int IntKind.u64] i
noncomputable def f87_3 (v : V87) : (Prop) := f87_13 v = false → f87_15 v = false → LT (r87_0 (P87_0.mk v.at_ v.n v.Q v.F v.G v.z v.L (0:Int))) (S87_0.mk (0:Nat) (0:Int) (0:Nat) (colI (fun (j:Nat) => []) (0:Nat)) (colI (fun (j:Nat) => []) (1:Nat)))
noncomputable def f87_4 (v : V87) : (Bool) := f87_13 v
noncomputable def f87_5 (v : V87) : (Prop) := ∀ (i:Nat), scpL (0:Nat) ((fun (j:Nat) => [SV.int IntKind.u64 (v.F j), SV.int IntKind.u64 (v.G j)]) i) = true
noncomputable def f87_6 (v : V87) : (Bool) := f87_15 v
noncomputable def f87_7 (v : V87) : (Prop) := (∀ (i:Nat), scpL (0:Nat) ((fun (j:Nat) => [SV.int IntKind.u64 (v.F j), SV.int IntKind.u64 (v.G j)]) i) = true) ∧ ∀ (i:Nat), scpL (0:Nat) ((fun (j:Nat) => [SV.int IntKind.u64 ((f87_16 v).F3_0 j), SV.int IntKind.u64 ((f87_16 v).F3_1 j)]) i) = true
noncomputable def f87_8 (v : V87) : (Nat) := (f87_16 v).n8
noncomputable def f87_9 (v : V87) : (Nat) := (f87_16 v).N3
noncomputable def f87_10 (v : V87) : Nat → (Int) := fun (j:Nat) => (f87_16 v).F3_0 j
noncomputable def f87_11 (v : V87) : Nat → (Int) := fun (j:Nat) => (f87_16 v).F3_1 j
theorem n_f87_0 (v : V87) : f87_0 v := by
  unfold f87_0
  (repeat' first | intro _ | apply And.intro) <;> first | rfl | exact absurd (by assumption) (Nat.not_lt_zero _) | exact scpL_rowSet (by rfl) (by rfl) | exact scpL_rowEl (by kernel_rfl) _ | omega | decide
theorem n_f87_1 (v : V87) : f87_1 v := by
  unfold f87_1
  (repeat' first | intro _ | apply And.intro) <;> first | rfl | exact absurd (by assumption) (Nat.not_lt_zero _) | exact scpL_rowSet (by rfl) (by rfl) | exact scpL_rowEl (by kernel_rfl) _ | omega | decide
theorem n_f87_2 (v : V87) : f87_2 v := by
  unfold f87_2
  (repeat' first | intro _ | apply And.intro) <;> first | rfl | exact absurd (by assumption) (Nat.not_lt_zero _) | exact scpL_rowSet (by rfl) (by rfl) | exact scpL_rowEl (by kernel_rfl) _ | omega | decide
theorem n_f87_5 (v : V87) : f87_5 v := by
  unfold f87_5
  (repeat' first | intro _ | apply And.intro) <;> first | rfl | exact absurd (by assumption) (Nat.not_lt_zero _) | exact scpL_rowSet (by rfl) (by rfl) | exact scpL_rowEl (by kernel_rfl) _ | omega | decide
theorem n_f87_7 (v : V87) : f87_7 v := by
  unfold f87_7
  (repeat' first | intro _ | apply And.intro) <;> first | rfl | exact absurd (by assumption) (Nat.not_lt_zero _) | exact scpL_rowSet (by rfl) (by rfl) | exact scpL_rowEl (by kernel_rfl) _ | omega | decide
noncomputable def ff87 (v : V87) : Tr (Fin th.R) := (Tr.need (f87_0 v) (Tr.need (f87_1 v) (Tr.need (f87_2 v) (Tr.need (f87_3 v) (Tr.ite (f87_4 v) (Tr.need (f87_5 v) (Tr.leaf ((SV.tup [(SV.agg [SV.int .u64 (v.z), (SV.slc (1) (2:Nat) (0:Nat) (v.L))]), (SV.int .i64 (13:Int))]), [HO.gone, (HO.row (195:Nat) (2:Nat) (v.Q) (fun j => [SV.int .u64 (v.F j), SV.int .u64 (v.G j)]))], [nat_lit 0]))) (Tr.ite (f87_6 v) (Tr.need (f87_5 v) (Tr.leaf ((SV.tup [(SV.agg [SV.int .u64 (v.z), (SV.slc (1) (2:Nat) (0:Nat) (v.L))]), (SV.int .i64 (12:Int))]), [HO.gone, (HO.row (195:Nat) (2:Nat) (v.Q) (fun j => [SV.int .u64 (v.F j), SV.int .u64 (v.G j)]))], [nat_lit 0]))) (Tr.need (f87_7 v) (Tr.leaf ((SV.tup [(SV.agg [SV.int .u64 (v.z), (SV.slc (1) (2:Nat) (0:Nat) (f87_8 v))]), (SV.int .i64 (0:Int))]), [(HO.row (195:Nat) (2:Nat) (v.Q) (fun j => [SV.int .u64 (v.F j), SV.int .u64 (v.G j)])), (HO.row (195:Nat) (2:Nat) (f87_9 v) (fun j => [SV.int .u64 (f87_10 v j), SV.int .u64 (f87_11 v j)]))], [nat_lit 0, (2:Nat), (1:Nat)])))))))))
noncomputable def f87 (v : V87) : Tr (Fin th.R) := (Tr.need (f87_3 v) (Tr.ite (f87_4 v) (Tr.leaf ((SV.tup [(SV.agg [SV.int .u64 (v.z), (SV.slc (1) (2:Nat) (0:Nat) (v.L))]), (SV.int .i64 (13:Int))]), [HO.gone, (HO.row (195:Nat) (2:Nat) (v.Q) (fun j => [SV.int .u64 (v.F j), SV.int .u64 (v.G j)]))], [0])) (Tr.ite (f87_6 v) (Tr.leaf ((SV.tup [(SV.agg [SV.int .u64 (v.z), (SV.slc (1) (2:Nat) (0:Nat) (v.L))]), (SV.int .i64 (12:Int))]), [HO.gone, (HO.row (195:Nat) (2:Nat) (v.Q) (fun j => [SV.int .u64 (v.F j), SV.int .u64 (v.G j)]))], [0])) (Tr.leaf ((SV.tup [(SV.agg [SV.int .u64 (v.z), (SV.slc (1) (2:Nat) (0:Nat) (f87_8 v))]), (SV.int .i64 (0:Int))]), [(HO.row (195:Nat) (2:Nat) (v.Q) (fun j => [SV.int .u64 (v.F j), SV.int .u64 (v.G j)])), (HO.row (195:Nat) (2:Nat) (f87_9 v) (fun j => [SV.int .u64 (f87_10 v j), SV.int .u64 (f87_11 v j)]))], [0])))))
noncomputable def C87 : CF th.R := fnC d87 ofV87 (f87 )
theorem q87 (v : V87) : (normC (evFn th Try.prog (auto th Try.prog nice151n [] 20) (autoH [(7, L87_0)] [] [] [8, 67] : Hints th) 87)) (A87 v) (H87 v) = some (ff87 v) := by kernel_rfl
theorem qg87 (v : V87) : ((ff87 v).map (setD [0])).get = (f87 v).get := by kernel_rfl
theorem qd87 (v : V87) : allD 1 [0] (ff87 v) = true := by kernel_rfl
theorem s87 : Sound Try.prog th 87 (C87 ) := fnC_sound (normC_sound (evFn_sound' (T := th) (P := Try.prog) (tbl := (auto th Try.prog nice151n [] 20)) (auto_sound (nice := nice151n) (us := []) nok151n 20) (H := (autoH [(7, L87_0)] [] [] [8, 67] : Hints th)) (k := 87) (fnLoops ok87))) d87 A87 H87 toV87 (by kernel_rfl) (fun v => by kernel_rfl)
  (fun l v h => by
    unfold ofV87 at h
    split at h
    · cases h; rfl
    · cases h)
  [0] (fun v => ⟨ff87 v, q87 v, fun h => by
    unfold f87 at h; unfold ff87
    simp only [Tr.ok, n_f87_0, n_f87_1, n_f87_2, n_f87_5, n_f87_7, true_and, and_true, forall_const, implies_true] at h ⊢
    try exact h, qg87 v, qd87 v⟩)
theorem qdd87 (v : V87) : (f87 v).get.2.2 = [0] := by
  rw [← qg87, Tr.map_get]; rfl
set_option maxRecDepth 100000
structure V85 where
  z : Int
  L : Nat
  at_ : Int
  w : Int
  Q : Nat
  F : Nat → Int
  G : Nat → Int
def A85 (v : V85) : List SV := [.agg [.int .u64 v.z, .slc 0 2 0 v.L], .int .u64 v.at_, .int .u64 v.w]
def H85 (v : V85) : List (HO th.R) := [.row 195 2 v.Q (fun j => [.int .u64 (v.F j), .int .u64 (v.G j)])]
def toV85 (v : V85) : List (Vl th.R) := [.i v.z, .n v.L, .i v.at_, .i v.w, .n v.Q, .c v.F, .c v.G]
def ofV85 : List (Vl th.R) → Option V85
  | [.i z, .n L, .i at_, .i w, .n Q, .c F, .c G] => some ⟨z, L, at_, w, Q, F, G⟩
  | _ => none
def d85 : Ft := ⟨[.agg [.int .u64, .slc0 0 2], .int .u64, .int .u64], [.rowc 195 [.int .u64, .int .u64]]⟩
structure P85_0 where
  x1 : Int
  x2 : Int
  N0 : Nat
  F0_0 : Nat → Int
  F0_1 : Nat → Int
  xh1_0 : Int
  nh1_1 : Nat
  xh2_0 : Int
structure S85_0 where
  n9 : Nat
  b10 : Bool
  x11 : Int
  N3 : Nat
  F3_0 : Nat → Int
  F3_1 : Nat → Int
noncomputable instance : Inhabited S85_0 := ⟨⟨0, false, 0, 0, fun _ => 0, fun _ => 0⟩⟩
def I85_0 (p : P85_0) (s : S85_0) : St th.R := ⟨[none, some (.int .u64 p.x1), some (.int .u64 p.x2), some (.ptr 1 0), none, none, some (.ptr 2 0), none, none, some (.slc 3 2 0 s.n9), some (.bool s.b10), some (.int .i64 s.x11), none, none, none, none, none, none, none, none, none, none, none, none, none, none, none, none, none, none, none, none, none, none, none, none, none, none, none, none, none, none, none, none, none, none, none, none, none, none, none, none, none, none, none, none, none, none, none, none, none, none, none, none, none, none, none, none, none, none, none, none, none, none, none, none, none], [.row 195 2 p.N0 (fun j => [.int .u64 (p.F0_0 j), .int .u64 (p.F0_1 j)]), .cells 126 [.int .u64 p.xh1_0, .slc 0 2 0 p.nh1_1], .cells 126 [.int .u64 p.xh2_0, .nils], .row 195 2 s.N3 (fun j => [.int .u64 (s.F3_0 j), .int .u64 (s.F3_1 j)])], [], []⟩
def d85_0 : Lp := ⟨⟨77, [(1, .int .u64), (2, .int .u64), (3, .ptr 1 0), (6, .ptr 2 0), (9, .slc0 3 2), (10, .bool), (11, .int .i64)], [.rowc 195 [.int .u64, .int .u64], .cells 126 [.int .u64, .slc0 0 2], .cells 126 [.int .u64, .nils], .rowc 195 [.int .u64, .int .u64]]⟩, [⟨9, 195, 2⟩], 3, [], [1, 2, 3, 6, 9, 10, 65, 66], []⟩
def toV85_0 (p : P85_0) (s : S85_0) : List (Vl th.R) := [.i p.x1, .i p.x2, .n s.n9, .b s.b10, .i s.x11, .n p.N0, .c p.F0_0, .c p.F0_1, .i p.xh1_0, .n p.nh1_1, .i p.xh2_0, .n s.N3, .c s.F3_0, .c s.F3_1]
def ofV85_0 : List (Vl th.R) → Option (P85_0 × S85_0)
  | [.i x1, .i x2, .n n9, .b b10, .i x11, .n N0, .c F0_0, .c F0_1, .i xh1_0, .n nh1_1, .i xh2_0, .n N3, .c F3_0, .c F3_1] => some (⟨x1, x2, N0, F0_0, F0_1, xh1_0, nh1_1, xh2_0⟩, ⟨n9, b10, x11, N3, F3_0, F3_1⟩)
  | _ => none
noncomputable def e85_0_36 (p : P85_0) (s : S85_0) : (Nat) := (0:Nat) + s.x11.toNat
noncomputable def e85_0_37 (p : P85_0) (s : S85_0) : (Int) := p.F0_0 (e85_0_36 p s)
noncomputable def e85_0_38 (p : P85_0) (s : S85_0) : (Bool) := cnd (!s.b10) (decide (e85_0_37 p s ≥ p.x1)) false
noncomputable def e85_0_39 (p : P85_0) (s : S85_0) : (Nat) := s.n9 + (1:Nat)
noncomputable def e85_0_40 (p : P85_0) (s : S85_0) : (Bool) := e85_0_37 p s != p.x1
noncomputable def e85_0_41 (p : P85_0) (s : S85_0) : (Nat) := e85_0_39 p s + (1:Nat)
noncomputable def e85_0_42 (p : P85_0) (s : S85_0) : (Int) := p.F0_1 (e85_0_36 p s)
noncomputable def e85_0_0 (p : P85_0) (s : S85_0) : (Bool) := cnd (decide (s.x11 < (↑p.nh1_1:Int))) false true
noncomputable def e85_0_1 (p : P85_0) (s : S85_0) : (Prop) := (∀ (i:Nat), scpL (0:Nat) ((fun (j:Nat) => [SV.int IntKind.u64 (p.F0_0 j), SV.int IntKind.u64 (p.F0_1 j)]) i) = true) ∧ ∀ (i:Nat), scpL (0:Nat) ((fun (j:Nat) => [SV.int IntKind.u64 (s.F3_0 j), SV.int IntKind.u64 (s.F3_1 j)]) i) = true
noncomputable def e85_0_2 (p : P85_0) (s : S85_0) : (Prop) := cnd (!s.b10) true false = true → (0:Int) ≤ s.x11 ∧ s.x11 < (↑p.nh1_1:Int)
noncomputable def e85_0_3 (p : P85_0) (s : S85_0) : (Prop) := cnd (!s.b10) true false = true → e85_0_36 p s < p.N0
noncomputable def e85_0_4 (p : P85_0) (s : S85_0) : (Prop) := e85_0_38 p s = true → (p.x2 != (0:Int)) = true → (0:Nat) = (0:Nat) ∧ s.n9 ≤ s.N3 ∧ (1:Nat) ≤ (1:Nat) ∧ e85_0_39 p s * (4096:Nat) ≤ (140737488355328:Nat) ∧ e85_0_39 p s ≤ (9223372036854775807:Nat)
noncomputable def e85_0_5 (p : P85_0) (s : S85_0) : (Prop) := e85_0_38 p s = true → (p.x2 != (0:Int)) = true → (0:Int) ≤ s.x11 ∧ s.x11 < (↑p.nh1_1:Int)
noncomputable def e85_0_6 (p : P85_0) (s : S85_0) : (Prop) := e85_0_38 p s = true → (p.x2 != (0:Int)) = true → e85_0_36 p s < p.N0
noncomputable def e85_0_7 (p : P85_0) (s : S85_0) : (Prop) := e85_0_38 p s = true → (p.x2 != (0:Int)) = true → e85_0_40 p s = true → (0:Int) ≤ s.x11 ∧ s.x11 < (↑p.nh1_1:Int)
noncomputable def e85_0_8 (p : P85_0) (s : S85_0) : (Prop) := e85_0_38 p s = true → (p.x2 != (0:Int)) = true → e85_0_40 p s = true → e85_0_36 p s < p.N0
noncomputable def e85_0_9 (p : P85_0) (s : S85_0) : (Prop) := e85_0_38 p s = true → (p.x2 != (0:Int)) = true → e85_0_40 p s = true → (0:Nat) = (0:Nat) ∧ e85_0_39 p s ≤ e85_0_39 p s ∧ (1:Nat) ≤ (1:Nat) ∧ e85_0_41 p s * (4096:Nat) ≤ (140737488355328:Nat) ∧ e85_0_41 p s ≤ (9223372036854775807:Nat)
noncomputable def e85_0_10 (p : P85_0) (s : S85_0) : (Prop) := e85_0_38 p s = true → (p.x2 != (0:Int)) = false → (0:Int) ≤ s.x11 ∧ s.x11 < (↑p.nh1_1:Int)
noncomputable def e85_0_11 (p : P85_0) (s : S85_0) : (Prop) := e85_0_38 p s = true → (p.x2 != (0:Int)) = false → e85_0_36 p s < p.N0
noncomputable def e85_0_12 (p : P85_0) (s : S85_0) : (Prop) := e85_0_38 p s = true → (p.x2 != (0:Int)) = false → e85_0_40 p s = true → (0:Int) ≤ s.x11 ∧ s.x11 < (↑p.nh1_1:Int)
noncomputable def e85_0_13 (p : P85_0) (s : S85_0) : (Prop) := e85_0_38 p s = true → (p.x2 != (0:Int)) = false → e85_0_40 p s = true → e85_0_36 p s < p.N0
noncomputable def e85_0_14 (p : P85_0) (s : S85_0) : (Prop) := e85_0_38 p s = true → (p.x2 != (0:Int)) = false → e85_0_40 p s = true → (0:Nat) = (0:Nat) ∧ s.n9 ≤ s.N3 ∧ (1:Nat) ≤ (1:Nat) ∧ e85_0_39 p s * (4096:Nat) ≤ (140737488355328:Nat) ∧ e85_0_39 p s ≤ (9223372036854775807:Nat)
noncomputable def e85_0_15 (p : P85_0) (s : S85_0) : (Prop) := e85_0_38 p s = false → (0:Int) ≤ s.x11 ∧ s.x11 < (↑p.nh1_1:Int)
noncomputable def e85_0_16 (p : P85_0) (s : S85_0) : (Prop) := e85_0_38 p s = false → e85_0_36 p s < p.N0
noncomputable def e85_0_17 (p : P85_0) (s : S85_0) : (Prop) := e85_0_38 p s = false → e85_0_40 p s = true → (0:Int) ≤ s.x11 ∧ s.x11 < (↑p.nh1_1:Int)
noncomputable def e85_0_18 (p : P85_0) (s : S85_0) : (Prop) := e85_0_38 p s = false → e85_0_40 p s = true → e85_0_36 p s < p.N0
noncomputable def e85_0_19 (p : P85_0) (s : S85_0) : (Prop) := e85_0_38 p s = false → e85_0_40 p s = true → (0:Nat) = (0:Nat) ∧ s.n9 ≤ s.N3 ∧ (1:Nat) ≤ (1:Nat) ∧ e85_0_39 p s * (4096:Nat) ≤ (140737488355328:Nat) ∧ e85_0_39 p s ≤ (9223372036854775807:Nat)
noncomputable def e85_0_20 (p : P85_0) (s : S85_0) : (Bool) := e85_0_38 p s
noncomputable def e85_0_21 (p : P85_0) (s : S85_0) : (Bool) := p.x2 != (0:Int)
noncomputable def e85_0_22 (p : P85_0) (s : S85_0) : (Bool) := e85_0_40 p s
noncomputable def e85_0_23 (p : P85_0) (s : S85_0) : (Prop) := ((∀ (i:Nat), scpL (0:Nat) ((fun (j:Nat) => [SV.int IntKind.u64 (p.F0_0 j), SV.int IntKind.u64 (p.F0_1 j)]) i) = true) ∧ ∀ (i:Nat), scpL (0:Nat) ((fun (i:Nat) => rowSet (i.blt (e85_0_39 p s)) ((fun (i:Nat) => rowSet (i.blt s.n9) ((fun (j:Nat) => [SV.int IntKind.u64 (s.F3_0 j), SV.int IntKind.u64 (s.F3_1 j)]) i) (rowEl (1:Nat) (2:Nat) (setMany (List.map (fun (i:Nat) => [SV.int IntKind.u64 (0:Int), SV.int IntKind.u64 (0:Int)].getD (i % (2:Nat)) Inhabited.default) (List.range (2:Nat))) (0:Nat) (SV.agg (setMany (setMany [SV.int IntKind.u64 (0:Int), SV.int IntKind.u64 (0:Int)] (0:Nat) (SV.int IntKind.u64 p.x1).cells) (1:Nat) (SV.int IntKind.u64 p.x2).cells)).cells) ((0:Nat) + (i - s.n9)))) i) (rowEl (1:Nat) (2:Nat) (setMany (List.map (fun (i:Nat) => [SV.int IntKind.u64 (0:Int), SV.int IntKind.u64 (0:Int)].getD (i % (2:Nat)) Inhabited.default) (List.range (2:Nat))) (0:Nat) (SV.agg (List.take (2:Nat) (List.drop (0:Nat) ((fun (j:Nat) => [SV.int IntKind.u64 (p.F0_0 j), SV.int IntKind.u64 (p.F0_1 j)]) (e85_0_36 p s))))).cells) ((0:Nat) + (i - e85_0_39 p s)))) i) = true) ∧ (∀ (i:Nat), i < p.N0 → (fun (j:Nat) => [SV.int IntKind.u64 (p.F0_0 j), SV.int IntKind.u64 (p.F0_1 j)]) i = elC (fun (j:Nat) => [SV.int IntKind.u64 (p.F0_0 j), SV.int IntKind.u64 (p.F0_1 j)]) (0:Nat) [Ck.int IntKind.u64, Ck.int IntKind.u64] i) ∧ ∀ (i:Nat), i < e85_0_41 p s → (fun (i:Nat) => rowSet (i.blt (e85_0_39 p s)) ((fun (i:Nat) => rowSet (i.blt s.n9) ((fun (j:Nat) => [SV.int IntKind.u64 (s.F3_0 j), SV.int IntKind.u64 (s.F3_1 j)]) i) (rowEl (1:Nat) (2:Nat) (setMany (List.map (fun (i:Nat) => [SV.int IntKind.u64 (0:Int), SV.int IntKind.u64 (0:Int)].getD (i % (2:Nat)) Inhabited.default) (List.range (2:Nat))) (0:Nat) (SV.agg (setMany (setMany [SV.int IntKind.u64 (0:Int), SV.int IntKind.u64 (0:Int)] (0:Nat) (SV.int IntKind.u64 p.x1).cells) (1:Nat) (SV.int IntKind.u64 p.x2).cells)).cells) ((0:Nat) + (i - s.n9)))) i) (rowEl (1:Nat) (2:Nat) (setMany (List.map (fun (i:Nat) => [SV.int IntKind.u64 (0:Int), SV.int IntKind.u64 (0:Int)].getD (i % (2:Nat)) Inhabited.default) (List.range (2:Nat))) (0:Nat) (SV.agg (List.take (2:Nat) (List.drop (0:Nat) ((fun (j:Nat) => [SV.int IntKind.u64 (p.F0_0 j), SV.int IntKind.u64 (p.F0_1 j)]) (e85_0_36 p s))))).cells) ((0:Nat) + (i - e85_0_39 p s)))) i = elC (fun (i:Nat) => rowSet (i.blt (e85_0_39 p s)) ((fun (i:Nat) => rowSet (i.blt s.n9) ((fun (j:Nat) => [SV.int IntKind.u64 (s.F3_0 j), SV.int IntKind.u64 (s.F3_1 j)]) i) (rowEl (1:Nat) (2:Nat) (setMany (List.map (fun (i:Nat) => [SV.int IntKind.u64 (0:Int), SV.int IntKind.u64 (0:Int)].getD (i % (2:Nat)) Inhabited.default) (List.range (2:Nat))) (0:Nat) (SV.agg (setMany (setMany [SV.int IntKind.u64 (0:Int), SV.int IntKind.u64 (0:Int)] (0:Nat) (SV.int IntKind.u64 p.x1).cells) (1:Nat) (SV.int IntKind.u64 p.x2).cells)).cells) ((0:Nat) + (i - s.n9)))) i) (rowEl (1:Nat) (2:Nat) (setMany (List.map (fun (i:Nat) => [SV.int IntKind.u64 (0:Int), SV.int IntKind.u64 (0:Int)].getD (i % (2:Nat)) Inhabited.default) (List.range (2:Nat))) (0:Nat) (SV.agg (List.take (2:Nat) (List.drop (0:Nat) ((fun (j:Nat) => [SV.int IntKind.u64 (p.F0_0 j), SV.int IntKind.u64 (p.F0_1 j)]) (e85_0_36 p s))))).cells) ((0:Nat) + (i - e85_0_39 p s)))) (0:Nat) [Ck.int IntKind.u64, Ck.int IntKind.u64] i
noncomputable def e85_0_24 (p : P85_0) (s : S85_0) : (Nat) := e85_0_41 p s
noncomputable def e85_0_25 (p : P85_0) (s : S85_0) : (Int) := IntKind.i64.wrap (s.x11 + (1:Int))
noncomputable def e85_0_26 (p : P85_0) (s : S85_0) : Nat → (Int) := fun (j:Nat) => cnd (j.blt (e85_0_39 p s)) (cnd (j.blt s.n9) (s.F3_0 j) p.x1) (e85_0_37 p s)
noncomputable def e85_0_27 (p : P85_0) (s : S85_0) : Nat → (Int) := fun (j:Nat) => cnd (j.blt (e85_0_39 p s)) (cnd (j.blt s.n9) (s.F3_1 j) p.x2) (e85_0_42 p s)
noncomputable def e85_0_28 (p : P85_0) (s : S85_0) : (Prop) := ((∀ (i:Nat), scpL (0:Nat) ((fun (j:Nat) => [SV.int IntKind.u64 (p.F0_0 j), SV.int IntKind.u64 (p.F0_1 j)]) i) = true) ∧ ∀ (i:Nat), scpL (0:Nat) ((fun (i:Nat) => rowSet (i.blt s.n9) ((fun (j:Nat) => [SV.int IntKind.u64 (s.F3_0 j), SV.int IntKind.u64 (s.F3_1 j)]) i) (rowEl (1:Nat) (2:Nat) (setMany (List.map (fun (i:Nat) => [SV.int IntKind.u64 (0:Int), SV.int IntKind.u64 (0:Int)].getD (i % (2:Nat)) Inhabited.default) (List.range (2:Nat))) (0:Nat) (SV.agg (setMany (setMany [SV.int IntKind.u64 (0:Int), SV.int IntKind.u64 (0:Int)] (0:Nat) (SV.int IntKind.u64 p.x1).cells) (1:Nat) (SV.int IntKind.u64 p.x2).cells)).cells) ((0:Nat) + (i - s.n9)))) i) = true) ∧ (∀ (i:Nat), i < p.N0 → (fun (j:Nat) => [SV.int IntKind.u64 (p.F0_0 j), SV.int IntKind.u64 (p.F0_1 j)]) i = elC (fun (j:Nat) => [SV.int IntKind.u64 (p.F0_0 j), SV.int IntKind.u64 (p.F0_1 j)]) (0:Nat) [Ck.int IntKind.u64, Ck.int IntKind.u64] i) ∧ ∀ (i:Nat), i < e85_0_39 p s → (fun (i:Nat) => rowSet (i.blt s.n9) ((fun (j:Nat) => [SV.int IntKind.u64 (s.F3_0 j), SV.int IntKind.u64 (s.F3_1 j)]) i) (rowEl (1:Nat) (2:Nat) (setMany (List.map (fun (i:Nat) => [SV.int IntKind.u64 (0:Int), SV.int IntKind.u64 (0:Int)].getD (i % (2:Nat)) Inhabited.default) (List.range (2:Nat))) (0:Nat) (SV.agg (setMany (setMany [SV.int IntKind.u64 (0:Int), SV.int IntKind.u64 (0:Int)] (0:Nat) (SV.int IntKind.u64 p.x1).cells) (1:Nat) (SV.int IntKind.u64 p.x2).cells)).cells) ((0:Nat) + (i - s.n9)))) i = elC (fun (i:Nat) => rowSet (i.blt s.n9) ((fun (j:Nat) => [SV.int IntKind.u64 (s.F3_0 j), SV.int IntKind.u64 (s.F3_1 j)]) i) (rowEl (1:Nat) (2:Nat) (setMany (List.map (fun (i:Nat) => [SV.int IntKind.u64 (0:Int), SV.int IntKind.u64 (0:Int)].getD (i % (2:Nat)) Inhabited.default) (List.range (2:Nat))) (0:Nat) (SV.agg (setMany (setMany [SV.int IntKind.u64 (0:Int), SV.int IntKind.u64 (0:Int)] (0:Nat) (SV.int IntKind.u64 p.x1).cells) (1:Nat) (SV.int IntKind.u64 p.x2).cells)).cells) ((0:Nat) + (i - s.n9)))) (0:Nat) [Ck.int IntKind.u64, Ck.int IntKind.u64] i
noncomputable def e85_0_29 (p : P85_0) (s : S85_0) : (Nat) := e85_0_39 p s
noncomputable def e85_0_30 (p : P85_0) (s : S85_0) : Nat → (Int) := fun (j:Nat) => cnd (j.blt s.n9) (s.F3_0 j) p.x1
noncomputable def e85_0_31 (p : P85_0) (s : S85_0) : Nat → (Int) := fun (j:Nat) => cnd (j.blt s.n9) (s.F3_1 j) p.x2
noncomputable def e85_0_32 (p : P85_0) (s : S85_0) : (Prop) := ((∀ (i:Nat), scpL (0:Nat) ((fun (j:Nat) => [SV.int IntKind.u64 (p.F0_0 j), SV.int IntKind.u64 (p.F0_1 j)]) i) = true) ∧ ∀ (i:Nat), scpL (0:Nat) ((fun (i:Nat) => rowSet (i.blt s.n9) ((fun (j:Nat) => [SV.int IntKind.u64 (s.F3_0 j), SV.int IntKind.u64 (s.F3_1 j)]) i) (rowEl (1:Nat) (2:Nat) (setMany (List.map (fun (i:Nat) => [SV.int IntKind.u64 (0:Int), SV.int IntKind.u64 (0:Int)].getD (i % (2:Nat)) Inhabited.default) (List.range (2:Nat))) (0:Nat) (SV.agg (List.take (2:Nat) (List.drop (0:Nat) ((fun (j:Nat) => [SV.int IntKind.u64 (p.F0_0 j), SV.int IntKind.u64 (p.F0_1 j)]) (e85_0_36 p s))))).cells) ((0:Nat) + (i - s.n9)))) i) = true) ∧ (∀ (i:Nat), i < p.N0 → (fun (j:Nat) => [SV.int IntKind.u64 (p.F0_0 j), SV.int IntKind.u64 (p.F0_1 j)]) i = elC (fun (j:Nat) => [SV.int IntKind.u64 (p.F0_0 j), SV.int IntKind.u64 (p.F0_1 j)]) (0:Nat) [Ck.int IntKind.u64, Ck.int IntKind.u64] i) ∧ ∀ (i:Nat), i < e85_0_39 p s → (fun (i:Nat) => rowSet (i.blt s.n9) ((fun (j:Nat) => [SV.int IntKind.u64 (s.F3_0 j), SV.int IntKind.u64 (s.F3_1 j)]) i) (rowEl (1:Nat) (2:Nat) (setMany (List.map (fun (i:Nat) => [SV.int IntKind.u64 (0:Int), SV.int IntKind.u64 (0:Int)].getD (i % (2:Nat)) Inhabited.default) (List.range (2:Nat))) (0:Nat) (SV.agg (List.take (2:Nat) (List.drop (0:Nat) ((fun (j:Nat) => [SV.int IntKind.u64 (p.F0_0 j), SV.int IntKind.u64 (p.F0_1 j)]) (e85_0_36 p s))))).cells) ((0:Nat) + (i - s.n9)))) i = elC (fun (i:Nat) => rowSet (i.blt s.n9) ((fun (j:Nat) => [SV.int IntKind.u64 (s.F3_0 j), SV.int IntKind.u64 (s.F3_1 j)]) i) (rowEl (1:Nat) (2:Nat) (setMany (List.map (fun (i:Nat) => [SV.int IntKind.u64 (0:Int), SV.int IntKind.u64 (0:Int)].getD (i % (2:Nat)) Inhabited.default) (List.range (2:Nat))) (0:Nat) (SV.agg (List.take (2:Nat) (List.drop (0:Nat) ((fun (j:Nat) => [SV.int IntKind.u64 (p.F0_0 j), SV.int IntKind.u64 (p.F0_1 j)]) (e85_0_36 p s))))).cells) ((0:Nat) + (i - s.n9)))) (0:Nat) [Ck.int IntKind.u64, Ck.int IntKind.u64] i
noncomputable def e85_0_33 (p : P85_0) (s : S85_0) : Nat → (Int) := fun (j:Nat) => cnd (j.blt s.n9) (s.F3_0 j) (e85_0_37 p s)
noncomputable def e85_0_34 (p : P85_0) (s : S85_0) : Nat → (Int) := fun (j:Nat) => cnd (j.blt s.n9) (s.F3_1 j) (e85_0_42 p s)
noncomputable def e85_0_35 (p : P85_0) (s : S85_0) : (Prop) := ((∀ (i:Nat), scpL (0:Nat) ((fun (j:Nat) => [SV.int IntKind.u64 (p.F0_0 j), SV.int IntKind.u64 (p.F0_1 j)]) i) = true) ∧ ∀ (i:Nat), scpL (0:Nat) ((fun (j:Nat) => [SV.int IntKind.u64 (s.F3_0 j), SV.int IntKind.u64 (s.F3_1 j)]) i) = true) ∧ (∀ (i:Nat), i < p.N0 → (fun (j:Nat) => [SV.int IntKind.u64 (p.F0_0 j), SV.int IntKind.u64 (p.F0_1 j)]) i = elC (fun (j:Nat) => [SV.int IntKind.u64 (p.F0_0 j), SV.int IntKind.u64 (p.F0_1 j)]) (0:Nat) [Ck.int IntKind.u64, Ck.int IntKind.u64] i) ∧ ∀ (i:Nat), i < s.N3 → (fun (j:Nat) => [SV.int IntKind.u64 (s.F3_0 j), SV.int IntKind.u64 (s.F3_1 j)]) i = elC (fun (j:Nat) => [SV.int IntKind.u64 (s.F3_0 j), SV.int IntKind.u64 (s.F3_1 j)]) (0:Nat) [Ck.int IntKind.u64, Ck.int IntKind.u64] i
theorem n_e85_0_1 (p : P85_0) (s : S85_0) : e85_0_1 p s := by
  unfold e85_0_1
  (repeat' first | intro _ | apply And.intro) <;> first | rfl | exact absurd (by assumption) (Nat.not_lt_zero _) | exact scpL_rowSet (by rfl) (by rfl) | exact scpL_rowEl (by kernel_rfl) _ | omega | decide
theorem n_e85_0_23 (p : P85_0) (s : S85_0) : e85_0_23 p s := by
  unfold e85_0_23
  (repeat' first | intro _ | apply And.intro) <;> first | rfl | exact absurd (by assumption) (Nat.not_lt_zero _) | exact scpL_rowSet (by rfl) (by rfl) | exact scpL_rowEl (by kernel_rfl) _ | omega | decide
theorem n_e85_0_28 (p : P85_0) (s : S85_0) : e85_0_28 p s := by
  unfold e85_0_28
  (repeat' first | intro _ | apply And.intro) <;> first | rfl | exact absurd (by assumption) (Nat.not_lt_zero _) | exact scpL_rowSet (by rfl) (by rfl) | exact scpL_rowEl (by kernel_rfl) _ | omega | decide
theorem n_e85_0_32 (p : P85_0) (s : S85_0) : e85_0_32 p s := by
  unfold e85_0_32
  (repeat' first | intro _ | apply And.intro) <;> first | rfl | exact absurd (by assumption) (Nat.not_lt_zero _) | exact scpL_rowSet (by rfl) (by rfl) | exact scpL_rowEl (by kernel_rfl) _ | omega | decide
theorem n_e85_0_35 (p : P85_0) (s : S85_0) : e85_0_35 p s := by
  unfold e85_0_35
  (repeat' first | intro _ | apply And.intro) <;> first | rfl | exact absurd (by assumption) (Nat.not_lt_zero _) | exact scpL_rowSet (by rfl) (by rfl) | exact scpL_rowEl (by kernel_rfl) _ | omega | decide
noncomputable def rf85_0 (p : P85_0) (s : S85_0) : Tr (Rs th.R S85_0) := (Tr.ite (e85_0_0 p s) (Tr.need (e85_0_1 p s) (Tr.leaf (Rs.out (Ex.exit (0:Nat)) [none, some (SV.int .u64 (p.x1)), some (SV.int .u64 (p.x2)), (some (SV.ptr (1:Nat) (0:Nat))), none, none, (some (SV.ptr (2:Nat) (0:Nat))), none, none, (some (SV.slc (3) (2:Nat) (0:Nat) (s.n9))), some (SV.bool (s.b10)), none, none, none, none, none, none, none, none, none, none, none, none, none, none, none, none, none, none, none, none, none, none, none, none, none, none, none, none, none, none, none, none, none, none, none, none, none, none, none, none, none, none, none, none, none, none, none, none, none, none, none, none, none, none, none, none, none, none, none, none, none, none, none, none, none, none] [(HO.row (195:Nat) (2:Nat) (p.N0) (fun j => [SV.int .u64 (p.F0_0 j), SV.int .u64 (p.F0_1 j)])), (HO.cells (126:Nat) [SV.int .u64 (p.xh1_0), (SV.slc (0:Nat) (2:Nat) (0:Nat) (p.nh1_1))]), (HO.cells (126:Nat) [SV.int .u64 (p.xh2_0), SV.nils]), (HO.row (195:Nat) (2:Nat) (s.N3) (fun j => [SV.int .u64 (s.F3_0 j), SV.int .u64 (s.F3_1 j)]))]))) (Tr.need (e85_0_2 p s) (Tr.need (e85_0_3 p s) (Tr.need (e85_0_4 p s) (Tr.need (e85_0_5 p s) (Tr.need (e85_0_6 p s) (Tr.need (e85_0_7 p s) (Tr.need (e85_0_8 p s) (Tr.need (e85_0_9 p s) (Tr.need (e85_0_10 p s) (Tr.need (e85_0_11 p s) (Tr.need (e85_0_12 p s) (Tr.need (e85_0_13 p s) (Tr.need (e85_0_14 p s) (Tr.need (e85_0_15 p s) (Tr.need (e85_0_16 p s) (Tr.need (e85_0_17 p s) (Tr.need (e85_0_18 p s) (Tr.need (e85_0_19 p s) (Tr.ite (e85_0_20 p s) (Tr.ite (e85_0_21 p s) (Tr.ite (e85_0_22 p s) (Tr.need (e85_0_23 p s) (Tr.leaf (Rs.on (S85_0.mk ((e85_0_24 p s)) (true) ((e85_0_25 p s)) ((e85_0_24 p s)) ((fun j => (e85_0_26 p s j))) ((fun j => (e85_0_27 p s j))))))) (Tr.need (e85_0_28 p s) (Tr.leaf (Rs.on (S85_0.mk ((e85_0_29 p s)) (true) ((e85_0_25 p s)) ((e85_0_29 p s)) ((fun j => (e85_0_30 p s j))) ((fun j => (e85_0_31 p s j)))))))) (Tr.ite (e85_0_22 p s) (Tr.need (e85_0_32 p s) (Tr.leaf (Rs.on (S85_0.mk ((e85_0_29 p s)) (true) ((e85_0_25 p s)) ((e85_0_29 p s)) ((fun j => (e85_0_33 p s j))) ((fun j => (e85_0_34 p s j))))))) (Tr.need (e85_0_35 p s) (Tr.leaf (Rs.on (S85_0.mk (s.n9) (true) ((e85_0_25 p s)) (s.N3) (s.F3_0) (s.F3_1))))))) (Tr.ite (e85_0_22 p s) (Tr.need (e85_0_32 p s) (Tr.leaf (Rs.on (S85_0.mk ((e85_0_29 p s)) (s.b10) ((e85_0_25 p s)) ((e85_0_29 p s)) ((fun j => (e85_0_33 p s j))) ((fun j => (e85_0_34 p s j))))))) (Tr.need (e85_0_35 p s) (Tr.leaf (Rs.on (S85_0.mk (s.n9) (s.b10) ((e85_0_25 p s)) (s.N3) (s.F3_0) (s.F3_1))))))))))))))))))))))))))
noncomputable def r85_0 (p : P85_0) (s : S85_0) : Tr (Rs th.R S85_0) := (Tr.ite (e85_0_0 p s) (Tr.leaf (Rs.out (Ex.exit (0:Nat)) [none, some (SV.int .u64 (p.x1)), some (SV.int .u64 (p.x2)), (some (SV.ptr (1:Nat) (0:Nat))), none, none, (some (SV.ptr (2:Nat) (0:Nat))), none, none, (some (SV.slc (3) (2:Nat) (0:Nat) (s.n9))), some (SV.bool (s.b10)), none, none, none, none, none, none, none, none, none, none, none, none, none, none, none, none, none, none, none, none, none, none, none, none, none, none, none, none, none, none, none, none, none, none, none, none, none, none, none, none, none, none, none, none, none, none, none, none, none, none, none, none, none, none, none, none, none, none, none, none, none, none, none, none, none, none] [(HO.row (195:Nat) (2:Nat) (p.N0) (fun j => [SV.int .u64 (p.F0_0 j), SV.int .u64 (p.F0_1 j)])), (HO.cells (126:Nat) [SV.int .u64 (p.xh1_0), (SV.slc (0:Nat) (2:Nat) (0:Nat) (p.nh1_1))]), (HO.cells (126:Nat) [SV.int .u64 (p.xh2_0), SV.nils]), (HO.row (195:Nat) (2:Nat) (s.N3) (fun j => [SV.int .u64 (s.F3_0 j), SV.int .u64 (s.F3_1 j)]))])) (Tr.need (e85_0_2 p s) (Tr.need (e85_0_3 p s) (Tr.need (e85_0_4 p s) (Tr.need (e85_0_5 p s) (Tr.need (e85_0_6 p s) (Tr.need (e85_0_7 p s) (Tr.need (e85_0_8 p s) (Tr.need (e85_0_9 p s) (Tr.need (e85_0_10 p s) (Tr.need (e85_0_11 p s) (Tr.need (e85_0_12 p s) (Tr.need (e85_0_13 p s) (Tr.need (e85_0_14 p s) (Tr.need (e85_0_15 p s) (Tr.need (e85_0_16 p s) (Tr.need (e85_0_17 p s) (Tr.need (e85_0_18 p s) (Tr.need (e85_0_19 p s) (Tr.ite (e85_0_20 p s) (Tr.ite (e85_0_21 p s) (Tr.ite (e85_0_22 p s) (Tr.leaf (Rs.on (S85_0.mk ((e85_0_24 p s)) (true) ((e85_0_25 p s)) ((e85_0_24 p s)) ((fun j => (e85_0_26 p s j))) ((fun j => (e85_0_27 p s j)))))) (Tr.leaf (Rs.on (S85_0.mk ((e85_0_29 p s)) (true) ((e85_0_25 p s)) ((e85_0_29 p s)) ((fun j => (e85_0_30 p s j))) ((fun j => (e85_0_31 p s j))))))) (Tr.ite (e85_0_22 p s) (Tr.leaf (Rs.on (S85_0.mk ((e85_0_29 p s)) (true) ((e85_0_25 p s)) ((e85_0_29 p s)) ((fun j => (e85_0_33 p s j))) ((fun j => (e85_0_34 p s j)))))) (Tr.leaf (Rs.on (S85_0.mk (s.n9) (true) ((e85_0_25 p s)) (s.N3) (s.F3_0) (s.F3_1)))))) (Tr.ite (e85_0_22 p s) (Tr.leaf (Rs.on (S85_0.mk ((e85_0_29 p s)) (s.b10) ((e85_0_25 p s)) ((e85_0_29 p s)) ((fun j => (e85_0_33 p s j))) ((fun j => (e85_0_34 p s j)))))) (Tr.leaf (Rs.on (S85_0.mk (s.n9) (s.b10) ((e85_0_25 p s)) (s.N3) (s.F3_0) (s.F3_1)))))))))))))))))))))))))
noncomputable def E85_0 : St th.R → Out th := evCode th Try.prog (auto th Try.prog nice151n [] 20) (autoH [] [] [] [9, 54, 68, 74] : Hints th) (lpAt Try.prog 85 0)
theorem B85_0 : CodeSound th Try.prog (lpAt Try.prog 85 0) E85_0 := evCode_sound (T := th) (P := Try.prog) (tbl := (auto th Try.prog nice151n [] 20)) (auto_sound (nice := nice151n) (us := []) nok151n 20) (autoH [] [] [] [9, 54, 68, 74] : Hints th) _ (LoopsOk_mem (fun _ => rfl) _ fun b hb L hL => by cases hL)
noncomputable def L85_0 : St th.R → Out th := loopL d85_0 ofV85_0 r85_0
theorem h1_85_0 (p : P85_0) (s : S85_0) : bld d85_0.tm (toV85_0 p s) = some (I85_0 p s) := by kernel_rfl
theorem h2_85_0 (l : List (Vl th.R)) (p : P85_0) (s : S85_0) (h : ofV85_0 l = some (p, s)) : l = toV85_0 p s := by
  unfold ofV85_0 at h
  split at h
  · cases h; rfl
  · cases h
theorem h3_85_0 (p : P85_0) (s : S85_0) : cvE d85_0 (E85_0 (I85_0 p s)) = some ((rf85_0 p s).map (Rs.map (toV85_0 p))) := by kernel_rfl
theorem h3g_85_0 (p : P85_0) (s : S85_0) : (rf85_0 p s).get = (r85_0 p s).get := by kernel_rfl
theorem h4_85_0 (p : P85_0) (s s1 : S85_0) : outH d85_0.dirt d85_0.n0 (r85_0 p s) = repH (maskH d85_0.dirt 0 d85_0.n0 (I85_0 p s1).heap) (r85_0 p s) := by kernel_rfl
theorem ls85_0 : CodeSound th Try.prog (.loop (lpAt Try.prog 85 0)) L85_0 := loopL_sound B85_0 d85_0 I85_0 toV85_0 (by kernel_rfl) h1_85_0 h2_85_0
  (fun p s => ⟨(rf85_0 p s).map (Rs.map (toV85_0 p)), h3_85_0 p s, fun h => by
    rw [Tr.map_ok]
    unfold r85_0 at h; unfold rf85_0
    simp only [Tr.ok, n_e85_0_1, n_e85_0_23, n_e85_0_28, n_e85_0_32, n_e85_0_35, true_and, and_true, forall_const, implies_true] at h ⊢
    try exact h, by rw [Tr.map_get, h3g_85_0 p s]⟩) h4_85_0
theorem ok85 : LoopsOk th Try.prog (autoH [(7, L85_0)] [] [] [9, 54, 68, 74] : Hints th) (bodyOf Try.prog 85) := autoH_ok (bs := [lpAt Try.prog 85 0]) (by kernel_rfl) fun b hb L hL => by
  simp only [List.mem_cons, List.not_mem_nil, or_false] at hb
  rcases hb with rfl
  · have e : lookL [(7, L85_0)] (firstReg (lpAt Try.prog 85 0)) = some L85_0 := by kernel_rfl
    rw [e] at hL; cases hL
    exact ls85_0
noncomputable def f85_18 (v : V85) : (Bool) := errI v.z v.at_ != (0:Int)
noncomputable def f85_19 (v : V85) : (S85_0) := lastS (r85_0 (P85_0.mk v.at_ v.w v.Q v.F v.G v.z v.L (0:Int))) (S85_0.mk (0:Nat) false (0:Int) (0:Nat) (colI (fun (j:Nat) => []) (0:Nat)) (colI (fun (j:Nat) => []) (1:Nat)))
noncomputable def f85_20 (v : V85) : (Bool) := cnd (!(f85_19 v).b10) (v.w != (0:Int)) false
noncomputable def f85_21 (v : V85) : (Nat) := (f85_19 v).n9
noncomputable def f85_22 (v : V85) : (Nat) := (f85_19 v).N3
noncomputable def f85_23 (v : V85) : (Nat) := f85_21 v + (1:Nat)
noncomputable def f85_0 (v : V85) : (Prop) := ∀ (i:Nat), scpL (0:Nat) ((fun (j:Nat) => [SV.int IntKind.u64 (v.F j), SV.int IntKind.u64 (v.G j)]) i) = true
noncomputable def f85_1 (v : V85) : (Prop) := ∀ (i:Nat), i < v.Q → (fun (j:Nat) => [SV.int IntKind.u64 (v.F j), SV.int IntKind.u64 (v.G j)]) i = elC (fun (j:Nat) => [SV.int IntKind.u64 (v.F j), SV.int IntKind.u64 (v.G j)]) (0:Nat) [Ck.int IntKind.u64, Ck.int IntKind.u64] i
noncomputable def f85_2 (v : V85) : (Prop) := pre151 (V151.mk v.z v.L v.at_ v.Q v.F v.G)
noncomputable def f85_3 (v : V85) : (Prop) := f85_18 v = false → (∀ (i:Nat), i < v.Q → (fun (j:Nat) => [SV.int IntKind.u64 (v.F j), SV.int IntKind.u64 (v.G j)]) i = elC (fun (j:Nat) => [SV.int IntKind.u64 (v.F j), SV.int IntKind.u64 (v.G j)]) (0:Nat) [Ck.int IntKind.u64, Ck.int IntKind.u64] i) ∧ ∀ (i:Nat), i < (0:Nat) → (fun (j:Nat) => []) i = elC (fun (j:Nat) => []) (0:Nat) [Ck.int IntKind.u64, Ck.int IntKind.u64] i
noncomputable def f85_4 (v : V85) : (Prop) := f85_18 v = false → LT (r85_0 (P85_0.mk v.at_ v.w v.Q v.F v.G v.z v.L (0:Int))) (S85_0.mk (0:Nat) false (0:Int) (0:Nat) (colI (fun (j:Nat) => []) (0:Nat)) (colI (fun (j:Nat) => []) (1:Nat)))
noncomputable def f85_5 (v : V85) : (Prop) := f85_18 v = false → f85_20 v = true → (0:Nat) = (0:Nat) ∧ f85_21 v ≤ f85_22 v ∧ (1:Nat) ≤ (1:Nat) ∧ f85_23 v * (4096:Nat) ≤ (140737488355328:Nat) ∧ f85_23 v ≤ (9223372036854775807:Nat)
noncomputable def f85_6 (v : V85) : (Bool) := f85_18 v
noncomputable def f85_7 (v : V85) : (Int) := errI v.z v.at_
noncomputable def f85_8 (v : V85) : (Bool) := f85_20 v
noncomputable def f85_9 (v : V85) : (Prop) := (∀ (i:Nat), scpL (0:Nat) ((fun (j:Nat) => [SV.int IntKind.u64 (v.F j), SV.int IntKind.u64 (v.G j)]) i) = true) ∧ ∀ (i:Nat), scpL (0:Nat) ((fun (i:Nat) => rowSet (i.blt (f85_21 v)) ((fun (j:Nat) => [SV.int IntKind.u64 ((f85_19 v).F3_0 j), SV.int IntKind.u64 ((f85_19 v).F3_1 j)]) i) (rowEl (1:Nat) (2:Nat) (setMany (List.map (fun (i:Nat) => [SV.int IntKind.u64 (0:Int), SV.int IntKind.u64 (0:Int)].getD (i % (2:Nat)) Inhabited.default) (List.range (2:Nat))) (0:Nat) (SV.agg (setMany (setMany [SV.int IntKind.u64 (0:Int), SV.int IntKind.u64 (0:Int)] (0:Nat) (SV.int IntKind.u64 v.at_).cells) (1:Nat) (SV.int IntKind.u64 v.w).cells)).cells) ((0:Nat) + (i - f85_21 v)))) i) = true
noncomputable def f85_10 (v : V85) : (Nat) := f85_23 v
noncomputable def f85_11 (v : V85) : Nat → (Int) := fun (i:Nat) => cnd (i.blt (f85_21 v)) ((f85_19 v).F3_0 i) v.at_
noncomputable def f85_12 (v : V85) : Nat → (Int) := fun (i:Nat) => cnd (i.blt (f85_21 v)) ((f85_19 v).F3_1 i) v.w
noncomputable def f85_13 (v : V85) : (Prop) := (∀ (i:Nat), scpL (0:Nat) ((fun (j:Nat) => [SV.int IntKind.u64 (v.F j), SV.int IntKind.u64 (v.G j)]) i) = true) ∧ ∀ (i:Nat), scpL (0:Nat) ((fun (j:Nat) => [SV.int IntKind.u64 ((f85_19 v).F3_0 j), SV.int IntKind.u64 ((f85_19 v).F3_1 j)]) i) = true
noncomputable def f85_14 (v : V85) : (Nat) := f85_21 v
noncomputable def f85_15 (v : V85) : (Nat) := f85_22 v
noncomputable def f85_16 (v : V85) : Nat → (Int) := fun (j:Nat) => (f85_19 v).F3_0 j
noncomputable def f85_17 (v : V85) : Nat → (Int) := fun (j:Nat) => (f85_19 v).F3_1 j
theorem n_f85_0 (v : V85) : f85_0 v := by
  unfold f85_0
  (repeat' first | intro _ | apply And.intro) <;> first | rfl | exact absurd (by assumption) (Nat.not_lt_zero _) | exact scpL_rowSet (by rfl) (by rfl) | exact scpL_rowEl (by kernel_rfl) _ | omega | decide
theorem n_f85_1 (v : V85) : f85_1 v := by
  unfold f85_1
  (repeat' first | intro _ | apply And.intro) <;> first | rfl | exact absurd (by assumption) (Nat.not_lt_zero _) | exact scpL_rowSet (by rfl) (by rfl) | exact scpL_rowEl (by kernel_rfl) _ | omega | decide
theorem n_f85_3 (v : V85) : f85_3 v := by
  unfold f85_3
  (repeat' first | intro _ | apply And.intro) <;> first | rfl | exact absurd (by assumption) (Nat.not_lt_zero _) | exact scpL_rowSet (by rfl) (by rfl) | exact scpL_rowEl (by kernel_rfl) _ | omega | decide
theorem n_f85_9 (v : V85) : f85_9 v := by
  unfold f85_9
  (repeat' first | intro _ | apply And.intro) <;> first | rfl | exact absurd (by assumption) (Nat.not_lt_zero _) | exact scpL_rowSet (by rfl) (by rfl) | exact scpL_rowEl (by kernel_rfl) _ | omega | decide
theorem n_f85_13 (v : V85) : f85_13 v := by
  unfold f85_13
  (repeat' first | intro _ | apply And.intro) <;> first | rfl | exact absurd (by assumption) (Nat.not_lt_zero _) | exact scpL_rowSet (by rfl) (by rfl) | exact scpL_rowEl (by kernel_rfl) _ | omega | decide
noncomputable def ff85 (v : V85) : Tr (Fin th.R) := (Tr.need (f85_0 v) (Tr.need (f85_1 v) (Tr.need (f85_2 v) (Tr.need (f85_0 v) (Tr.need (f85_3 v) (Tr.need (f85_4 v) (Tr.need (f85_5 v) (Tr.ite (f85_6 v) (Tr.need (f85_0 v) (Tr.leaf ((SV.tup [(SV.agg [SV.int .u64 (v.z), (SV.slc (1) (2:Nat) (0:Nat) (v.L))]), SV.int .i64 (f85_7 v)]), [HO.gone, (HO.row (195:Nat) (2:Nat) (v.Q) (fun j => [SV.int .u64 (v.F j), SV.int .u64 (v.G j)]))], [nat_lit 0]))) (Tr.ite (f85_8 v) (Tr.need (f85_9 v) (Tr.leaf ((SV.tup [(SV.agg [SV.int .u64 (v.z), (SV.slc (1) (2) (0:Nat) (f85_10 v))]), (SV.int .i64 (0:Int))]), [(HO.row (195:Nat) (2:Nat) (v.Q) (fun j => [SV.int .u64 (v.F j), SV.int .u64 (v.G j)])), (HO.row (195:Nat) (2) (f85_10 v) (fun i => [SV.int .u64 (f85_11 v i), SV.int .u64 (f85_12 v i)]))], [nat_lit 0, (2:Nat), (1:Nat), (3:Nat)]))) (Tr.need (f85_13 v) (Tr.leaf ((SV.tup [(SV.agg [SV.int .u64 (v.z), (SV.slc (1) (2:Nat) (0:Nat) (f85_14 v))]), (SV.int .i64 (0:Int))]), [(HO.row (195:Nat) (2:Nat) (v.Q) (fun j => [SV.int .u64 (v.F j), SV.int .u64 (v.G j)])), (HO.row (195:Nat) (2:Nat) (f85_15 v) (fun j => [SV.int .u64 (f85_16 v j), SV.int .u64 (f85_17 v j)]))], [nat_lit 0, (2:Nat), (1:Nat)]))))))))))))
noncomputable def f85 (v : V85) : Tr (Fin th.R) := (Tr.need (f85_2 v) (Tr.need (f85_4 v) (Tr.need (f85_5 v) (Tr.ite (f85_6 v) (Tr.leaf ((SV.tup [(SV.agg [SV.int .u64 (v.z), (SV.slc (1) (2:Nat) (0:Nat) (v.L))]), SV.int .i64 (f85_7 v)]), [HO.gone, (HO.row (195:Nat) (2:Nat) (v.Q) (fun j => [SV.int .u64 (v.F j), SV.int .u64 (v.G j)]))], [0])) (Tr.ite (f85_8 v) (Tr.leaf ((SV.tup [(SV.agg [SV.int .u64 (v.z), (SV.slc (1) (2) (0:Nat) (f85_10 v))]), (SV.int .i64 (0:Int))]), [(HO.row (195:Nat) (2:Nat) (v.Q) (fun j => [SV.int .u64 (v.F j), SV.int .u64 (v.G j)])), (HO.row (195:Nat) (2) (f85_10 v) (fun i => [SV.int .u64 (f85_11 v i), SV.int .u64 (f85_12 v i)]))], [0])) (Tr.leaf ((SV.tup [(SV.agg [SV.int .u64 (v.z), (SV.slc (1) (2:Nat) (0:Nat) (f85_14 v))]), (SV.int .i64 (0:Int))]), [(HO.row (195:Nat) (2:Nat) (v.Q) (fun j => [SV.int .u64 (v.F j), SV.int .u64 (v.G j)])), (HO.row (195:Nat) (2:Nat) (f85_15 v) (fun j => [SV.int .u64 (f85_16 v j), SV.int .u64 (f85_17 v j)]))], [0])))))))
noncomputable def C85 : CF th.R := fnC d85 ofV85 (f85 )
theorem q85 (v : V85) : (normC (evFn th Try.prog (auto th Try.prog nice151n [] 20) (autoH [(7, L85_0)] [] [] [9, 54, 68, 74] : Hints th) 85)) (A85 v) (H85 v) = some (ff85 v) := by kernel_rfl
theorem qg85 (v : V85) : ((ff85 v).map (setD [0])).get = (f85 v).get := by kernel_rfl
theorem qd85 (v : V85) : allD 1 [0] (ff85 v) = true := by kernel_rfl
theorem s85 : Sound Try.prog th 85 (C85 ) := fnC_sound (normC_sound (evFn_sound' (T := th) (P := Try.prog) (tbl := (auto th Try.prog nice151n [] 20)) (auto_sound (nice := nice151n) (us := []) nok151n 20) (H := (autoH [(7, L85_0)] [] [] [9, 54, 68, 74] : Hints th)) (k := 85) (fnLoops ok85))) d85 A85 H85 toV85 (by kernel_rfl) (fun v => by kernel_rfl)
  (fun l v h => by
    unfold ofV85 at h
    split at h
    · cases h; rfl
    · cases h)
  [0] (fun v => ⟨ff85 v, q85 v, fun h => by
    unfold f85 at h; unfold ff85
    simp only [Tr.ok, n_f85_0, n_f85_1, n_f85_3, n_f85_9, n_f85_13, true_and, and_true, forall_const, implies_true] at h ⊢
    try exact h, qg85 v, qd85 v⟩)
theorem qdd85 (v : V85) : (f85 v).get.2.2 = [0] := by
  rw [← qg85, Tr.map_get]; rfl
set_option maxRecDepth 100000
structure V86 where
  z : Int
  L : Nat
  at_ : Int
  Q : Nat
  F : Nat → Int
  G : Nat → Int
def A86 (v : V86) : List SV := [.agg [.int .u64 v.z, .slc 0 2 0 v.L], .int .u64 v.at_]
def H86 (v : V86) : List (HO th.R) := [.row 195 2 v.Q (fun j => [.int .u64 (v.F j), .int .u64 (v.G j)])]
def toV86 (v : V86) : List (Vl th.R) := [.i v.z, .n v.L, .i v.at_, .n v.Q, .c v.F, .c v.G]
def ofV86 : List (Vl th.R) → Option V86
  | [.i z, .n L, .i at_, .n Q, .c F, .c G] => some ⟨z, L, at_, Q, F, G⟩
  | _ => none
def d86 : Ft := ⟨[.agg [.int .u64, .slc0 0 2], .int .u64], [.rowc 195 [.int .u64, .int .u64]]⟩
structure P86_0 where
  x1 : Int
  x4 : Int
  x5 : Int
  N0 : Nat
  F0_0 : Nat → Int
  F0_1 : Nat → Int
  xh1_0 : Int
  nh1_1 : Nat
structure S86_0 where
  x7 : Int
noncomputable instance : Inhabited S86_0 := ⟨⟨0⟩⟩
def I86_0 (p : P86_0) (s : S86_0) : St th.R := ⟨[none, some (.int .u64 p.x1), some (.ptr 1 0), none, some (.int .u64 p.x4), some (.int .i64 p.x5), none, some (.int .i64 s.x7), none, none, none, none, none, none, none, none, none, none, none, none, none, none, none, none, none, none, none, none, none, none, none, none, none, none, none], [.row 195 2 p.N0 (fun j => [.int .u64 (p.F0_0 j), .int .u64 (p.F0_1 j)]), .cells 126 [.int .u64 p.xh1_0, .slc 0 2 0 p.nh1_1]], [], []⟩
def d86_0 : Lp := ⟨⟨35, [(1, .int .u64), (2, .ptr 1 0), (4, .int .u64), (5, .int .i64), (7, .int .i64)], [.rowc 195 [.int .u64, .int .u64], .cells 126 [.int .u64, .slc0 0 2]]⟩, [], 2, [], [4, 5], []⟩
def toV86_0 (p : P86_0) (s : S86_0) : List (Vl th.R) := [.i p.x1, .i p.x4, .i p.x5, .i s.x7, .n p.N0, .c p.F0_0, .c p.F0_1, .i p.xh1_0, .n p.nh1_1]
def ofV86_0 : List (Vl th.R) → Option (P86_0 × S86_0)
  | [.i x1, .i x4, .i x5, .i x7, .n N0, .c F0_0, .c F0_1, .i xh1_0, .n nh1_1] => some (⟨x1, x4, x5, N0, F0_0, F0_1, xh1_0, nh1_1⟩, ⟨x7⟩)
  | _ => none
noncomputable def e86_0_10 (p : P86_0) (s : S86_0) : (Nat) := (0:Nat) + s.x7.toNat
noncomputable def e86_0_11 (p : P86_0) (s : S86_0) : (Bool) := p.F0_0 (e86_0_10 p s) == p.x1
noncomputable def e86_0_0 (p : P86_0) (s : S86_0) : (Bool) := cnd (decide (s.x7 < (↑p.nh1_1:Int))) false true
noncomputable def e86_0_1 (p : P86_0) (s : S86_0) : (Prop) := ∀ (i:Nat), scpL (0:Nat) ((fun (j:Nat) => [SV.int IntKind.u64 (p.F0_0 j), SV.int IntKind.u64 (p.F0_1 j)]) i) = true
noncomputable def e86_0_2 (p : P86_0) (s : S86_0) : (Prop) := (0:Int) ≤ s.x7 ∧ s.x7 < (↑p.nh1_1:Int)
noncomputable def e86_0_3 (p : P86_0) (s : S86_0) : (Prop) := e86_0_10 p s < p.N0
noncomputable def e86_0_4 (p : P86_0) (s : S86_0) : (Prop) := e86_0_11 p s = true → (0:Int) ≤ s.x7 ∧ s.x7 < (↑p.nh1_1:Int)
noncomputable def e86_0_5 (p : P86_0) (s : S86_0) : (Prop) := e86_0_11 p s = true → e86_0_10 p s < p.N0
noncomputable def e86_0_6 (p : P86_0) (s : S86_0) : (Bool) := e86_0_11 p s
noncomputable def e86_0_7 (p : P86_0) (s : S86_0) : (Int) := p.F0_1 (e86_0_10 p s)
noncomputable def e86_0_8 (p : P86_0) (s : S86_0) : (Prop) := (∀ (i:Nat), scpL (0:Nat) ((fun (j:Nat) => [SV.int IntKind.u64 (p.F0_0 j), SV.int IntKind.u64 (p.F0_1 j)]) i) = true) ∧ ∀ (i:Nat), i < p.N0 → (fun (j:Nat) => [SV.int IntKind.u64 (p.F0_0 j), SV.int IntKind.u64 (p.F0_1 j)]) i = elC (fun (j:Nat) => [SV.int IntKind.u64 (p.F0_0 j), SV.int IntKind.u64 (p.F0_1 j)]) (0:Nat) [Ck.int IntKind.u64, Ck.int IntKind.u64] i
noncomputable def e86_0_9 (p : P86_0) (s : S86_0) : (Int) := IntKind.i64.wrap (s.x7 + (1:Int))
theorem n_e86_0_1 (p : P86_0) (s : S86_0) : e86_0_1 p s := by
  unfold e86_0_1
  (repeat' first | intro _ | apply And.intro) <;> first | rfl | exact absurd (by assumption) (Nat.not_lt_zero _) | exact scpL_rowSet (by rfl) (by rfl) | exact scpL_rowEl (by kernel_rfl) _ | omega | decide
theorem n_e86_0_8 (p : P86_0) (s : S86_0) : e86_0_8 p s := by
  unfold e86_0_8
  (repeat' first | intro _ | apply And.intro) <;> first | rfl | exact absurd (by assumption) (Nat.not_lt_zero _) | exact scpL_rowSet (by rfl) (by rfl) | exact scpL_rowEl (by kernel_rfl) _ | omega | decide
noncomputable def rf86_0 (p : P86_0) (s : S86_0) : Tr (Rs th.R S86_0) := (Tr.ite (e86_0_0 p s) (Tr.need (e86_0_1 p s) (Tr.leaf (Rs.out (Ex.exit (0:Nat)) [none, none, none, none, some (SV.int .u64 (p.x4)), some (SV.int .i64 (p.x5)), none, none, none, none, none, none, none, none, none, none, none, none, none, none, none, none, none, none, none, none, none, none, none, none, none, none, none, none, none] [(HO.row (195:Nat) (2:Nat) (p.N0) (fun j => [SV.int .u64 (p.F0_0 j), SV.int .u64 (p.F0_1 j)])), (HO.cells (126:Nat) [SV.int .u64 (p.xh1_0), (SV.slc (0:Nat) (2:Nat) (0:Nat) (p.nh1_1))])]))) (Tr.need (e86_0_2 p s) (Tr.need (e86_0_3 p s) (Tr.need (e86_0_4 p s) (Tr.need (e86_0_5 p s) (Tr.ite (e86_0_6 p s) (Tr.need (e86_0_1 p s) (Tr.leaf (Rs.out (Ex.ret) [none, none, none, none, some (SV.int .u64 (e86_0_7 p s)), (some (SV.int .i64 (0:Int))), none, none, none, none, none, none, none, none, none, none, none, none, none, none, none, none, none, none, none, none, none, none, none, none, none, none, none, none, none] [(HO.row (195:Nat) (2:Nat) (p.N0) (fun j => [SV.int .u64 (p.F0_0 j), SV.int .u64 (p.F0_1 j)])), (HO.cells (126:Nat) [SV.int .u64 (p.xh1_0), (SV.slc (0:Nat) (2:Nat) (0:Nat) (p.nh1_1))])]))) (Tr.need (e86_0_8 p s) (Tr.leaf (Rs.on (S86_0.mk ((e86_0_9 p s))))))))))))
noncomputable def r86_0 (p : P86_0) (s : S86_0) : Tr (Rs th.R S86_0) := (Tr.ite (e86_0_0 p s) (Tr.leaf (Rs.out (Ex.exit (0:Nat)) [none, none, none, none, some (SV.int .u64 (p.x4)), some (SV.int .i64 (p.x5)), none, none, none, none, none, none, none, none, none, none, none, none, none, none, none, none, none, none, none, none, none, none, none, none, none, none, none, none, none] [(HO.row (195:Nat) (2:Nat) (p.N0) (fun j => [SV.int .u64 (p.F0_0 j), SV.int .u64 (p.F0_1 j)])), (HO.cells (126:Nat) [SV.int .u64 (p.xh1_0), (SV.slc (0:Nat) (2:Nat) (0:Nat) (p.nh1_1))])])) (Tr.need (e86_0_2 p s) (Tr.need (e86_0_3 p s) (Tr.need (e86_0_4 p s) (Tr.need (e86_0_5 p s) (Tr.ite (e86_0_6 p s) (Tr.leaf (Rs.out (Ex.ret) [none, none, none, none, some (SV.int .u64 (e86_0_7 p s)), (some (SV.int .i64 (0:Int))), none, none, none, none, none, none, none, none, none, none, none, none, none, none, none, none, none, none, none, none, none, none, none, none, none, none, none, none, none] [(HO.row (195:Nat) (2:Nat) (p.N0) (fun j => [SV.int .u64 (p.F0_0 j), SV.int .u64 (p.F0_1 j)])), (HO.cells (126:Nat) [SV.int .u64 (p.xh1_0), (SV.slc (0:Nat) (2:Nat) (0:Nat) (p.nh1_1))])])) (Tr.leaf (Rs.on (S86_0.mk ((e86_0_9 p s)))))))))))
noncomputable def E86_0 : St th.R → Out th := evCode th Try.prog (auto th Try.prog nice151n [] 20) (autoH [] [] [] [] : Hints th) (lpAt Try.prog 86 0)
theorem B86_0 : CodeSound th Try.prog (lpAt Try.prog 86 0) E86_0 := evCode_sound (T := th) (P := Try.prog) (tbl := (auto th Try.prog nice151n [] 20)) (auto_sound (nice := nice151n) (us := []) nok151n 20) (autoH [] [] [] [] : Hints th) _ (LoopsOk_mem (fun _ => rfl) _ fun b hb L hL => by cases hL)
noncomputable def L86_0 : St th.R → Out th := loopL d86_0 ofV86_0 r86_0
theorem h1_86_0 (p : P86_0) (s : S86_0) : bld d86_0.tm (toV86_0 p s) = some (I86_0 p s) := by kernel_rfl
theorem h2_86_0 (l : List (Vl th.R)) (p : P86_0) (s : S86_0) (h : ofV86_0 l = some (p, s)) : l = toV86_0 p s := by
  unfold ofV86_0 at h
  split at h
  · cases h; rfl
  · cases h
theorem h3_86_0 (p : P86_0) (s : S86_0) : cvE d86_0 (E86_0 (I86_0 p s)) = some ((rf86_0 p s).map (Rs.map (toV86_0 p))) := by kernel_rfl
theorem h3g_86_0 (p : P86_0) (s : S86_0) : (rf86_0 p s).get = (r86_0 p s).get := by kernel_rfl
theorem h4_86_0 (p : P86_0) (s s1 : S86_0) : outH d86_0.dirt d86_0.n0 (r86_0 p s) = repH (maskH d86_0.dirt 0 d86_0.n0 (I86_0 p s1).heap) (r86_0 p s) := by kernel_rfl
theorem ls86_0 : CodeSound th Try.prog (.loop (lpAt Try.prog 86 0)) L86_0 := loopL_sound B86_0 d86_0 I86_0 toV86_0 (by kernel_rfl) h1_86_0 h2_86_0
  (fun p s => ⟨(rf86_0 p s).map (Rs.map (toV86_0 p)), h3_86_0 p s, fun h => by
    rw [Tr.map_ok]
    unfold r86_0 at h; unfold rf86_0
    simp only [Tr.ok, n_e86_0_1, n_e86_0_8, true_and, and_true, forall_const, implies_true] at h ⊢
    try exact h, by rw [Tr.map_get, h3g_86_0 p s]⟩) h4_86_0
theorem ok86 : LoopsOk th Try.prog (autoH [(5, L86_0)] [] [] [] : Hints th) (bodyOf Try.prog 86) := autoH_ok (bs := [lpAt Try.prog 86 0]) (by kernel_rfl) fun b hb L hL => by
  simp only [List.mem_cons, List.not_mem_nil, or_false] at hb
  rcases hb with rfl
  · have e : lookL [(5, L86_0)] (firstReg (lpAt Try.prog 86 0)) = some L86_0 := by kernel_rfl
    rw [e] at hL; cases hL
    exact ls86_0
noncomputable def f86_7 (v : V86) : (Bool) := errI v.z v.at_ != (0:Int)
noncomputable def f86_8 (v : V86) : (P86_0) := P86_0.mk v.at_ (0:Int) (0:Int) v.Q v.F v.G v.z v.L
noncomputable def f86_9 (v : V86) : (S86_0) := lastS (r86_0 (f86_8 v)) (S86_0.mk (0:Int))
noncomputable def f86_0 (v : V86) : (Prop) := ∀ (i:Nat), scpL (0:Nat) ((fun (j:Nat) => [SV.int IntKind.u64 (v.F j), SV.int IntKind.u64 (v.G j)]) i) = true
noncomputable def f86_1 (v : V86) : (Prop) := ∀ (i:Nat), i < v.Q → (fun (j:Nat) => [SV.int IntKind.u64 (v.F j), SV.int IntKind.u64 (v.G j)]) i = elC (fun (j:Nat) => [SV.int IntKind.u64 (v.F j), SV.int IntKind.u64 (v.G j)]) (0:Nat) [Ck.int IntKind.u64, Ck.int IntKind.u64] i
noncomputable def f86_2 (v : V86) : (Prop) := pre151 (V151.mk v.z v.L v.at_ v.Q v.F v.G)
noncomputable def f86_3 (v : V86) : (Prop) := f86_7 v = false → ∀ (i:Nat), i < v.Q → (fun (j:Nat) => [SV.int IntKind.u64 (v.F j), SV.int IntKind.u64 (v.G j)]) i = elC (fun (j:Nat) => [SV.int IntKind.u64 (v.F j), SV.int IntKind.u64 (v.G j)]) (0:Nat) [Ck.int IntKind.u64, Ck.int IntKind.u64] i
noncomputable def f86_4 (v : V86) : (Prop) := f86_7 v = false → LT (r86_0 (f86_8 v)) (S86_0.mk (0:Int))
noncomputable def f86_5 (v : V86) : (Int) := cnd (f86_7 v) (0:Int) (cnd (cnd (e86_0_0 (f86_8 v) (f86_9 v)) false true) (e86_0_7 (f86_8 v) (f86_9 v)) (0:Int))
noncomputable def f86_6 (v : V86) : (Int) := cnd (f86_7 v) (errI v.z v.at_) (cnd (cnd (e86_0_0 (f86_8 v) (f86_9 v)) false true) (0:Int) (0:Int))
theorem n_f86_0 (v : V86) : f86_0 v := by
  unfold f86_0
  (repeat' first | intro _ | apply And.intro) <;> first | rfl | exact absurd (by assumption) (Nat.not_lt_zero _) | exact scpL_rowSet (by rfl) (by rfl) | exact scpL_rowEl (by kernel_rfl) _ | omega | decide
theorem n_f86_1 (v : V86) : f86_1 v := by
  unfold f86_1
  (repeat' first | intro _ | apply And.intro) <;> first | rfl | exact absurd (by assumption) (Nat.not_lt_zero _) | exact scpL_rowSet (by rfl) (by rfl) | exact scpL_rowEl (by kernel_rfl) _ | omega | decide
theorem n_f86_3 (v : V86) : f86_3 v := by
  unfold f86_3
  (repeat' first | intro _ | apply And.intro) <;> first | rfl | exact absurd (by assumption) (Nat.not_lt_zero _) | exact scpL_rowSet (by rfl) (by rfl) | exact scpL_rowEl (by kernel_rfl) _ | omega | decide
noncomputable def ff86 (v : V86) : Tr (Fin th.R) := (Tr.need (f86_0 v) (Tr.need (f86_1 v) (Tr.need (f86_2 v) (Tr.need (f86_0 v) (Tr.need (f86_3 v) (Tr.need (f86_4 v) (Tr.leaf (SV.tup [SV.int .u64 (f86_5 v), SV.int .i64 (f86_6 v)], [(HO.row (195:Nat) (2:Nat) (v.Q) (fun j => [SV.int .u64 (v.F j), SV.int .u64 (v.G j)]))], List.nil))))))))
noncomputable def f86 (v : V86) : Tr (Fin th.R) := (Tr.need (f86_2 v) (Tr.need (f86_4 v) (Tr.leaf (SV.tup [SV.int .u64 (f86_5 v), SV.int .i64 (f86_6 v)], [(HO.row (195:Nat) (2:Nat) (v.Q) (fun j => [SV.int .u64 (v.F j), SV.int .u64 (v.G j)]))], []))))
noncomputable def C86 : CF th.R := fnC d86 ofV86 (f86 )
theorem q86 (v : V86) : (evFn th Try.prog (auto th Try.prog nice151n [] 20) (autoH [(5, L86_0)] [] [] [] : Hints th) 86) (A86 v) (H86 v) = some (ff86 v) := by kernel_rfl
theorem qg86 (v : V86) : ((ff86 v).map (setD [])).get = (f86 v).get := by kernel_rfl
theorem qd86 (v : V86) : allD 1 [] (ff86 v) = true := by kernel_rfl
theorem s86 : Sound Try.prog th 86 (C86 ) := fnC_sound (evFn_sound' (T := th) (P := Try.prog) (tbl := (auto th Try.prog nice151n [] 20)) (auto_sound (nice := nice151n) (us := []) nok151n 20) (H := (autoH [(5, L86_0)] [] [] [] : Hints th)) (k := 86) (fnLoops ok86)) d86 A86 H86 toV86 (by kernel_rfl) (fun v => by kernel_rfl)
  (fun l v h => by
    unfold ofV86 at h
    split at h
    · cases h; rfl
    · cases h)
  [] (fun v => ⟨ff86 v, q86 v, fun h => by
    unfold f86 at h; unfold ff86
    simp only [Tr.ok, n_f86_0, n_f86_1, n_f86_3, true_and, and_true, forall_const, implies_true] at h ⊢
    try exact h, qg86 v, qd86 v⟩)
theorem qdd86 (v : V86) : (f86 v).get.2.2 = [] := by
  rw [← qg86, Tr.map_get]; rfl
set_option maxRecDepth 100000
theorem mem_pgs_of {M : Mem} {a : Int} (hz : M.size % 4096 = 0) (h0 : 0 ≤ a) (h8 : a % 8 = 0) (hlt : a < M.size) (hw : M.W a ≠ 0) : a / 4096 * 4096 ∈ pgs M := by
  unfold pgs pgN
  refine List.mem_map.2 ⟨(a / 4096).toNat, List.mem_filter.2 ⟨List.mem_range.2 ?_, decide_eq_true (cntW_pos.2 ⟨((a % 4096) / 8).toNat, by omega, ?_⟩)⟩, by omega⟩
  · unfold pagN; omega
  · have e : (((a / 4096).toNat:Nat):Int) * 4096 + 8 * ((((a % 4096) / 8).toNat:Nat):Int) = a := by omega
    rw [e]; exact hw
theorem pgs_sorted (M : Mem) : (pgs M).Pairwise (· < ·) := by
  unfold pgs pgN
  rw [List.pairwise_map]
  exact ((range_lt _).filter _).imp fun h => by omega
theorem pgs_all {M : Mem} (hM : MemOk M) {a : Int} (h : M.W a ≠ 0) : a / 4096 * 4096 ∈ pgs M := by
  obtain ⟨h0, h1, h8⟩ := hM.dom a h
  exact mem_pgs_of hM.al h0 h8 h1 h
theorem wr_W (M : Mem) (a x:Int) : (wrM M a x).W = cnd (decide (errI M.size a = 0)) (upd M.W a x) M.W := rfl
theorem wr_ok {M : Mem} {a x : Int} (hM : MemOk M) (h0 : 0 ≤ a) (hx : U64 x) : MemOk (wrM M a x) := by
  by_cases he : errI M.size a = 0
  · obtain ⟨h8, hlt⟩ := errI_bad he
    have hw : (wrM M a x).W = upd M.W a x := by rw [wr_W, decide_eq_true he]; rfl
    refine ⟨hM.lo, hM.hi, hM.al, fun b hb => ?_, fun b => ?_⟩
    · rw [hw] at hb
      by_cases e : b = a
      · subst e; exact ⟨h0, hlt, h8⟩
      · rw [upd_other e] at hb; exact hM.dom b hb
    · rw [hw]
      by_cases e : b = a
      · subst e; rw [upd_same]; exact hx
      · rw [upd_other e]; exact hM.rng b
  · have hw : (wrM M a x).W = M.W := by rw [wr_W, decide_eq_false he]; rfl
    exact ⟨hM.lo, hM.hi, hM.al, fun b hb => hM.dom b (by rw [← hw]; exact hb), fun b => by rw [hw]; exact hM.rng b⟩
theorem wr_sup {M : Mem} {a x b : Int} (h : (wrM M a x).W b ≠ 0) : b = a ∨ M.W b ≠ 0 := by
  by_cases e : b = a
  · exact .inl e
  · right
    rw [wr_W] at h
    by_cases he : errI M.size a = 0
    · rw [decide_eq_true he] at h
      have h : upd M.W a x b ≠ 0 := h
      rwa [upd_other e] at h
    · rw [decide_eq_false he] at h; exact h
set_option maxRecDepth 100000
/-! ### A memory's words as a list -/
def wsM (M : Mem) : List (Int × Int) := ((List.range (M.size / 8).toNat).filter fun (i:Nat) => M.W (8 * (i:Int)) != 0).map fun (i:Nat) => (8 * (i:Int), M.W (8 * (i:Int)))
def pl (F G : Nat → Int) (n:Nat) : List (Int × Int) := (List.range n).map fun j => (F j, G j)
theorem pl_len (F G : Nat → Int) (n:Nat) : (pl F G n).length = n := by simp [pl]
theorem pl_get {F G : Nat → Int} {n j : Nat} (h : j < n) : (pl F G n)[j]? = some (F j, G j) := by simp [pl, h]
theorem pl_drop {F G : Nat → Int} {n i : Nat} (h : i < n) : (pl F G n).drop i = (F i, G i) :: (pl F G n).drop (i + 1) := by
  have hl : i < (pl F G n).length := by rw [pl_len]; exact h
  rw [List.drop_eq_getElem_cons hl]
  congr 1
  have := pl_get (F := F) (G := G) h
  rw [List.getElem?_eq_getElem hl] at this
  exact Option.some.inj this
theorem pl_end (F G : Nat → Int) (n:Nat) : (pl F G n).drop n = [] := List.drop_eq_nil_of_le (by rw [pl_len]; exact Nat.le_refl _)
theorem pl_snoc {F G : Nat → Int} {n : Nat} {x y : Int} : pl (fun j => cnd (Nat.blt j n) (F j) x) (fun j => cnd (Nat.blt j n) (G j) y) (n + 1) = pl F G n ++ [(x, y)] := by
  unfold pl
  rw [List.range_succ, List.map_append]
  have hb : Nat.blt n n = false := by
    cases hb : Nat.blt n n with
    | false => rfl
    | true => rw [Nat.blt_eq] at hb; omega
  congr 1
  · apply List.map_congr_left
    intro j hj
    have : Nat.blt j n = true := by rw [Nat.blt_eq]; exact List.mem_range.1 hj
    show (cnd (Nat.blt j n) (F j) x, cnd (Nat.blt j n) (G j) y) = _
    rw [this]; rfl
  · show [(cnd (Nat.blt n n) (F n) x, cnd (Nat.blt n n) (G n) y)] = _
    rw [hb]; rfl
theorem pl_congr {F G F' G' : Nat → Int} {n : Nat} (h : ∀ j, j < n → F j = F' j ∧ G j = G' j) : pl F G n = pl F' G' n := by
  unfold pl
  apply List.map_congr_left
  intro j hj
  rw [(h j (List.mem_range.1 hj)).1, (h j (List.mem_range.1 hj)).2]
def Rsg (l : List (Int × Int)) : Prop := l.Pairwise fun x y => x.1 < y.1
theorem rsg_ext {l l' : List (Int × Int)} (h : Rsg l) (h' : Rsg l') (hm : ∀ x, x ∈ l ↔ x ∈ l') : l = l' := by
  have nd : ∀ {l : List (Int × Int)}, Rsg l → l.Nodup := fun h => h.imp fun {a b} hab e => by rw [e] at hab; omega
  refine List.Perm.eq_of_pairwise (le := fun x y : Int × Int => x.1 < y.1) (fun a b _ _ h1 h2 => absurd h1 (by omega)) h h' ((List.perm_ext_iff_of_nodup (nd h) (nd h')).2 hm)
theorem wsM_rsg (M : Mem) : Rsg (wsM M) := by
  unfold Rsg wsM
  rw [List.pairwise_map]
  exact ((range_lt _).filter _).imp fun h => by show 8 * ((_:Nat):Int) < 8 * ((_:Nat):Int); omega
theorem wsM_mem {M : Mem} (hM : MemOk M) {x : Int × Int} : x ∈ wsM M ↔ M.W x.1 = x.2 ∧ x.2 ≠ 0 := by
  unfold wsM
  rw [List.mem_map]
  constructor
  · rintro ⟨i, hi, rfl⟩
    have := (List.mem_filter.1 hi).2
    exact ⟨rfl, by simpa using this⟩
  · rintro ⟨h1, h2⟩
    have hn : M.W x.1 ≠ 0 := by rw [h1]; exact h2
    obtain ⟨a0, a1, a8⟩ := hM.dom _ hn
    have hal := hM.al
    have e : 8 * (((x.1 / 8).toNat:Nat):Int) = x.1 := by omega
    refine ⟨(x.1 / 8).toNat, List.mem_filter.2 ⟨List.mem_range.2 (by omega), by rw [e]; simpa using hn⟩, ?_⟩
    rw [e, h1]
theorem wsM_eq {M : Mem} (hM : MemOk M) {l : List (Int × Int)} (h : Rsg l) (hm : ∀ x, x ∈ l ↔ M.W x.1 = x.2 ∧ x.2 ≠ 0) : l = wsM M :=
  rsg_ext h (wsM_rsg M) fun x => (hm x).trans (wsM_mem hM).symm
/-! ### Read -/
def rdL (l : List (Int × Int)) (a:Int) : Int := match l.find? fun x => x.1 == a with
  | some x => x.2
  | none => 0
theorem rdL_ws {M : Mem} (hM : MemOk M) (a:Int) : rdL (wsM M) a = M.W a := by
  unfold rdL
  cases h : (wsM M).find? fun x => x.1 == a with
  | some x =>
    have h1 : x.1 = a := by simpa using List.find?_some h
    have := ((wsM_mem hM).1 (List.mem_of_find?_eq_some h)).1
    rw [h1] at this
    exact this.symm
  | none =>
    rw [List.find?_eq_none] at h
    refine (Decidable.byContradiction fun hn => ?_ : (0:Int) = M.W a)
    exact h (a, M.W a) ((wsM_mem hM).2 ⟨rfl, fun e => hn e.symm⟩) (by simp)
/-! ### Write -/
def wrG (a w:Int) : Bool → List (Int × Int) → List (Int × Int)
  | d, [] => if d = false ∧ w ≠ 0 then [(a, w)] else []
  | d, x :: r => (if d = false ∧ x.1 ≥ a ∧ w ≠ 0 then [(a, w)] else []) ++ ((if x.1 ≠ a then [x] else []) ++ wrG a w (d || decide (x.1 ≥ a)) r)
theorem wrG_mem (a w:Int) : ∀ (d : Bool) (l : List (Int × Int)) (x : Int × Int), x ∈ wrG a w d l ↔ (x ∈ l ∧ x.1 ≠ a) ∨ (d = false ∧ x = (a, w) ∧ w ≠ 0)
  | d, [], x => by
    unfold wrG
    by_cases h : d = false ∧ w ≠ 0
    · rw [if_pos h]; simp [h]
    · rw [if_neg h]
      simp only [List.not_mem_nil, false_and, false_or, false_iff]
      exact fun e => h ⟨e.1, e.2.2⟩
  | d, y :: r, x => by
    unfold wrG
    rw [List.mem_append, List.mem_append, wrG_mem a w _ r x, List.mem_cons]
    have m1 : (x ∈ if d = false ∧ y.1 ≥ a ∧ w ≠ 0 then [(a, w)] else []) ↔ (d = false ∧ y.1 ≥ a ∧ w ≠ 0) ∧ x = (a, w) := by
      split <;> rename_i h
      · simp [h]
      · simp only [List.not_mem_nil, false_iff]; exact fun e => h e.1
    have m2 : (x ∈ if y.1 ≠ a then [y] else []) ↔ y.1 ≠ a ∧ x = y := by
      split <;> rename_i h
      · simp [h]
      · simp only [List.not_mem_nil, false_iff]; exact fun e => h e.1
    rw [m1, m2]
    constructor
    · rintro (⟨⟨h1, h2, h3⟩, h4⟩ | ⟨h1, rfl⟩ | ⟨h1, h2⟩ | ⟨h1, h2, h3⟩)
      · exact .inr ⟨h1, h4, h3⟩
      · exact .inl ⟨.inl rfl, h1⟩
      · exact .inl ⟨.inr h1, h2⟩
      · refine .inr ⟨?_, h2, h3⟩
        cases d
        · rfl
        · cases h1
    · rintro (⟨h1 | h1, h2⟩ | ⟨h1, h2, h3⟩)
      · exact .inr (.inl ⟨by rw [← h1]; exact h2, h1⟩)
      · exact .inr (.inr (.inl ⟨h1, h2⟩))
      · by_cases hy : y.1 ≥ a
        · exact .inl ⟨⟨h1, hy, h3⟩, h2⟩
        · exact .inr (.inr (.inr ⟨by rw [h1, decide_eq_false hy]; rfl, h2, h3⟩))
theorem wrG_rsg (a w:Int) : ∀ (d : Bool) (l : List (Int × Int)), Rsg l → Rsg (wrG a w d l)
  | d, [], _ => by
    unfold wrG
    split
    · exact List.pairwise_singleton _ _
    · exact List.Pairwise.nil
  | d, y :: r, h => by
    obtain ⟨h1, h2⟩ := List.pairwise_cons.1 h
    have ih := wrG_rsg a w (d || decide (y.1 ≥ a)) r h2
    unfold wrG
    refine List.pairwise_append.2 ⟨?_, List.pairwise_append.2 ⟨?_, ih, ?_⟩, ?_⟩
    · split
      · exact List.pairwise_singleton _ _
      · exact List.Pairwise.nil
    · split
      · exact List.pairwise_singleton _ _
      · exact List.Pairwise.nil
    · intro x hx z hz
      split at hx
      · have hx := List.mem_singleton.1 hx
        subst hx
        rcases (wrG_mem a w _ r z).1 hz with ⟨q1, _⟩ | ⟨q1, rfl, _⟩
        · exact h1 z q1
        · have : decide (x.1 ≥ a) = false := by
            cases d
            · exact q1
            · cases q1
          have := of_decide_eq_false this
          show x.1 < a
          omega
      · cases hx
    · intro x hx z hz
      split at hx
      · rename_i hc
        have hx := List.mem_singleton.1 hx
        subst hx
        rcases List.mem_append.1 hz with hz | hz
        · split at hz
          · rename_i hne
            rw [List.mem_singleton.1 hz]
            show a < y.1
            have := hc.2.1
            omega
          · cases hz
        · rcases (wrG_mem a w _ r z).1 hz with ⟨q1, _⟩ | ⟨q1, _, _⟩
          · have := h1 z q1
            have := hc.2.1
            show a < z.1
            omega
          · rw [decide_eq_true hc.2.1] at q1
            cases d <;> cases q1
      · cases hx
def wrR (z:Int) (l : List (Int × Int)) (a w:Int) : List (Int × Int) := cnd (errI z a != 0) l (wrG a w false l)
theorem wrR_ws {M : Mem} (hM : MemOk M) {a w : Int} (h0 : 0 ≤ a) (hw : U64 w) : wrR M.size (wsM M) a w = wsM (wrM M a w) := by
  unfold wrR
  have hM' := wr_ok (a := a) hM h0 hw
  by_cases he : errI M.size a = 0
  · rw [show (errI M.size a != 0) = false by rw [he]; rfl]
    have hW : (wrM M a w).W = upd M.W a w := by rw [wr_W, decide_eq_true he]; rfl
    show wrG a w false (wsM M) = _
    refine wsM_eq hM' (wrG_rsg a w false _ (wsM_rsg M)) fun x => ?_
    rw [wrG_mem, wsM_mem hM, hW]
    by_cases hx : x.1 = a
    · rw [hx, upd_same]
      constructor
      · rintro (⟨_, h2⟩ | ⟨_, rfl, h3⟩)
        · exact absurd rfl h2
        · exact ⟨rfl, h3⟩
      · rintro ⟨h1, h2⟩
        exact .inr ⟨rfl, Prod.ext hx h1.symm, by rw [h1]; exact h2⟩
    · rw [upd_other hx]
      constructor
      · rintro (⟨h1, _⟩ | ⟨_, rfl, _⟩)
        · exact h1
        · exact absurd rfl hx
      · intro h1
        exact .inl ⟨h1, hx⟩
  · rw [show (errI M.size a != 0) = true from bne_iff_ne.2 he]
    have hW : (wrM M a w).W = M.W := by rw [wr_W, decide_eq_false he]; rfl
    show wsM M = _
    refine wsM_eq hM' (wsM_rsg M) fun x => ?_
    rw [wsM_mem hM, hW]
/-! ### Clear -/
def clR (z:Int) (l : List (Int × Int)) (a n:Int) : List (Int × Int) := cnd (errC z a n != 0) l (l.filter fun x => !decide (a ≤ x.1 ∧ x.1 < a + n))
theorem cl_ok {M : Mem} (hM : MemOk M) (a n:Int) : MemOk (clM M a n) := hM.less fun x => by
  show cnd _ _ _ = 0 ∨ cnd _ _ _ = M.W x
  cases decide (errC M.size a n = 0 ∧ a ≤ x ∧ x < a + n)
  · exact .inr rfl
  · exact .inl rfl
theorem cl_inW {M : Mem} {a n x : Int} (he : errC M.size a n = 0) (h : a ≤ x ∧ x < a + n) : (clM M a n).W x = 0 := by
  show cnd _ _ _ = _
  rw [decide_eq_true ⟨he, h⟩]; rfl
theorem cl_outW {M : Mem} {a n x : Int} (h : ¬ (a ≤ x ∧ x < a + n)) : (clM M a n).W x = M.W x := by
  show cnd _ _ _ = _
  rw [decide_eq_false fun e => h e.2]; rfl
theorem clR_ws {M : Mem} (hM : MemOk M) (a n:Int) : clR M.size (wsM M) a n = wsM (clM M a n) := by
  unfold clR
  by_cases he : errC M.size a n = 0
  · rw [show (errC M.size a n != 0) = false by rw [he]; rfl]
    show (wsM M).filter _ = _
    refine wsM_eq (cl_ok hM a n) ((wsM_rsg M).filter _) fun x => ?_
    rw [List.mem_filter, wsM_mem hM]
    by_cases hx : a ≤ x.1 ∧ x.1 < a + n
    · rw [cl_inW he hx, decide_eq_true hx]
      constructor
      · rintro ⟨_, h⟩; cases h
      · rintro ⟨h1, h2⟩; exact absurd h1.symm h2
    · rw [cl_outW hx, decide_eq_false hx]
      simp
  · rw [show (errC M.size a n != 0) = true from bne_iff_ne.2 he, clM_bad he]; rfl
/-! ### Pages -/
def pgG : Option Int → List (Int × Int) → List Int
  | _, [] => []
  | o, x :: r => if o = some (x.1 - x.1 % 4096) then pgG o r else (x.1 - x.1 % 4096) :: pgG (some (x.1 - x.1 % 4096)) r
theorem pgG_mem : ∀ (o : Option Int) (l : List (Int × Int)), Rsg l → (∀ p, o = some p → ∀ x, x ∈ l → p ≤ x.1 - x.1 % 4096) → ∀ y, y ∈ pgG o l ↔ o ≠ some y ∧ ∃ x, x ∈ l ∧ x.1 - x.1 % 4096 = y
  | o, [], _, _, y => by
    unfold pgG
    simp
  | o, z :: r, h, ho, y => by
    obtain ⟨h1, h2⟩ := List.pairwise_cons.1 h
    unfold pgG
    by_cases hz : o = some (z.1 - z.1 % 4096)
    · rw [if_pos hz, pgG_mem o r h2 (fun p hp x hx => ho p hp x (List.mem_cons_of_mem _ hx)) y]
      constructor
      · rintro ⟨q1, x, hx, e⟩
        exact ⟨q1, x, List.mem_cons_of_mem _ hx, e⟩
      · rintro ⟨q1, x, hx, e⟩
        rcases List.mem_cons.1 hx with rfl | hx
        · rw [e] at hz; exact absurd hz q1
        · exact ⟨q1, x, hx, e⟩
    · rw [if_neg hz, List.mem_cons, pgG_mem _ r h2 (fun p hp x hx => by
        have hp := Option.some.inj hp
        have := h1 x hx
        omega) y]
      constructor
      · rintro (rfl | ⟨q1, x, hx, e⟩)
        · exact ⟨hz, z, List.mem_cons_self, rfl⟩
        · refine ⟨fun e2 => ?_, x, List.mem_cons_of_mem _ hx, e⟩
          have l1 := ho y e2 z List.mem_cons_self
          have l2 := h1 x hx
          have : z.1 - z.1 % 4096 = y := by omega
          exact q1 (by rw [this])
      · rintro ⟨q1, x, hx, e⟩
        by_cases hzy : z.1 - z.1 % 4096 = y
        · exact .inl hzy.symm
        · refine .inr ⟨fun e2 => hzy (Option.some.inj e2), ?_⟩
          rcases List.mem_cons.1 hx with rfl | hx
          · exact absurd e hzy
          · exact ⟨x, hx, e⟩
theorem pgG_srt : ∀ (o : Option Int) (l : List (Int × Int)), Rsg l → (∀ p, o = some p → ∀ x, x ∈ l → p ≤ x.1 - x.1 % 4096) → (pgG o l).Pairwise (· < ·)
  | o, [], _, _ => by
    unfold pgG; exact List.Pairwise.nil
  | o, z :: r, h, ho => by
    obtain ⟨h1, h2⟩ := List.pairwise_cons.1 h
    have hr : ∀ p, some (z.1 - z.1 % 4096) = some p → ∀ x, x ∈ r → p ≤ x.1 - x.1 % 4096 := fun p hp x hx => by
      have hp := Option.some.inj hp
      have := h1 x hx
      omega
    unfold pgG
    by_cases hz : o = some (z.1 - z.1 % 4096)
    · rw [if_pos hz]
      exact pgG_srt o r h2 fun p hp x hx => ho p hp x (List.mem_cons_of_mem _ hx)
    · rw [if_neg hz]
      refine List.pairwise_cons.2 ⟨fun y hy => ?_, pgG_srt _ r h2 hr⟩
      obtain ⟨q1, x, hx, e⟩ := (pgG_mem _ r h2 hr y).1 hy
      have := hr _ rfl x hx
      have : z.1 - z.1 % 4096 ≠ y := fun e => q1 (by rw [e])
      omega
theorem pgs_of {M : Mem} {y : Int} (h : y ∈ pgs M) : ∃ a, M.W a ≠ 0 ∧ a - a % 4096 = y := by
  unfold pgs pgN at h
  obtain ⟨p, hp, rfl⟩ := List.mem_map.1 h
  obtain ⟨i, hi, hw⟩ := cntW_pos.1 (of_decide_eq_true (List.mem_filter.1 hp).2)
  exact ⟨_, hw, by omega⟩
theorem pgG_ws {M : Mem} (hM : MemOk M) : pgG none (wsM M) = pgs M := by
  have hs := pgG_srt none (wsM M) (wsM_rsg M) (fun p e => by cases e)
  have nd : ∀ {l : List Int}, l.Pairwise (· < ·) → l.Nodup := fun h => h.imp fun {a b} hab e => by omega
  refine List.Perm.eq_of_pairwise (le := fun x y : Int => x < y) (fun a b _ _ h1 h2 => absurd h1 (by omega)) hs (pgs_sorted M) ((List.perm_ext_iff_of_nodup (nd hs) (nd (pgs_sorted M))).2 fun y => ?_)
  rw [pgG_mem none (wsM M) (wsM_rsg M) (fun p e => by cases e)]
  constructor
  · rintro ⟨_, x, hx, rfl⟩
    obtain ⟨h1, h2⟩ := (wsM_mem hM).1 hx
    have := pgs_all hM (a := x.1) (by rw [h1]; exact h2)
    rw [show x.1 / 4096 * 4096 = x.1 - x.1 % 4096 by omega] at this
    exact this
  · intro hy
    obtain ⟨a, ha, e⟩ := pgs_of hy
    exact ⟨fun e => (by cases e), (a, M.W a), (wsM_mem hM).2 ⟨rfl, ha⟩, e⟩
theorem flt_sum (P : Nat → Bool) : ∀ n : Nat, ((List.range (512 * n)).filter P).length = sumN (fun p => ((List.range 512).filter fun i => P (512 * p + i)).length) n
  | 0 => rfl
  | n + 1 => by
    rw [show 512 * (n + 1) = 512 * n + 512 by omega, List.range_add, List.filter_append, List.length_append, flt_sum P n, List.filter_map, List.length_map]
    rfl
theorem wcn_ws {M : Mem} (hM : MemOk M) : wcn M = (wsM M).length := by
  have hal := hM.al
  have hlo := hM.lo
  unfold wsM wcn
  rw [List.length_map, show (M.size / 8).toNat = 512 * pagN M by unfold pagN; omega, flt_sum]
  refine sumN_eq fun p _ => ?_
  unfold cntW
  congr 2
  funext i
  rw [show ((p:Nat):Int) * 4096 + 8 * (i:Int) = 8 * ((512 * p + i:Nat):Int) by omega]
theorem flt_one {P Q : Nat → Bool} {k : Nat} (h : ∀ x, Q x = true → P x = true ∨ x = k) : ∀ n : Nat, ((List.range n).filter Q).length ≤ ((List.range n).filter P).length + if k < n then 1 else 0
  | 0 => by simp
  | n + 1 => by
    have ih := flt_one h n
    rw [List.range_succ, List.filter_append, List.filter_append, List.length_append, List.length_append]
    have e : ∀ f : Nat → Bool, ([n].filter f).length = if f n = true then 1 else 0 := fun f => by
      cases hf : f n <;> simp [hf]
    rw [e, e]
    by_cases hq : Q n = true
    · rcases h n hq with hp | rfl
      · rw [if_pos hq, if_pos hp]
        split at ih <;> split <;> omega
      · rw [if_pos hq]
        rw [if_neg (show ¬ n < n by omega)] at ih
        rw [if_pos (show n < n + 1 by omega)]
        split <;> omega
    · rw [if_neg hq]
      split at ih <;> split <;> split <;> omega
theorem ws_wr_len (M : Mem) {a w : Int} (h0 : 0 ≤ a) : (wsM (wrM M a w)).length ≤ (wsM M).length + 1 := by
  unfold wsM
  rw [List.length_map, List.length_map]
  have := flt_one (P := fun (i:Nat) => M.W (8 * (i:Int)) != 0) (Q := fun (i:Nat) => (wrM M a w).W (8 * (i:Int)) != 0) (k := (a / 8).toNat) (fun x hx => by
    have hx : (wrM M a w).W (8 * (x:Int)) ≠ 0 := by simpa using hx
    rcases wr_sup hx with e | e
    · right; omega
    · left; simpa using e) (M.size / 8).toNat
  refine Nat.le_trans this ?_
  split <;> omega
theorem ws_cl_len {M : Mem} (hM : MemOk M) (a n:Int) : (wsM (clM M a n)).length ≤ (wsM M).length := by
  rw [← clR_ws hM]
  unfold clR
  cases errC M.size a n != 0
  · exact List.length_filter_le _ _
  · exact Nat.le_refl _
set_option maxRecDepth 100000
def gP (l : List (Int × Int)) (j:Nat) : Int × Int := l.getD j (0, 0)
theorem gP_pl {F G : Nat → Int} {n j : Nat} (h : j < n) : gP (pl F G n) j = (F j, G j) := by
  unfold gP
  rw [List.getD, pl_get h]; rfl
def rowP (l : List (Int × Int)) : HO th.R := .row 195 2 l.length (fun j => [.int .u64 (gP l j).1, .int .u64 (gP l j).2])
theorem rowP_of {F G : Nat → Int} {n : Nat} {l : List (Int × Int)} (h : pl F G n = l) : HOw (R := th.R) (.row 195 2 n (fun j => [.int .u64 (F j), .int .u64 (G j)])) (rowP l) := by
  subst h
  unfold rowP
  rw [pl_len]
  exact .row fun j hj => by rw [gP_pl hj]
theorem l86_0 {p : P86_0} {a : Int} {L : Nat} {k : Nat} (h1 : p.x1 = a) (hn : p.nh1_1 = L) (hN : p.N0 = L) (hL : L ≤ 100000) {s : S86_0} (hs : s.x7 = 0) :
    LT (r86_0 p) s ∧ cnd (cnd (e86_0_0 p (lastS (r86_0 p) s)) false true) (e86_0_7 p (lastS (r86_0 p) s)) 0 = rdL (pl p.F0_0 p.F0_1 L) a := by
  refine LT.post (fun t : S86_0 => ∃ i : Nat, t.x7 = i ∧ i ≤ L ∧ rdL ((pl p.F0_0 p.F0_1 L).drop i) a = rdL (pl p.F0_0 p.F0_1 L) a) (fun t : S86_0 => cnd (cnd (e86_0_0 p t) false true) (e86_0_7 p t) 0 = rdL (pl p.F0_0 p.F0_1 L) a) (fun t : S86_0 => L - t.x7.toNat) ?_ ⟨0, hs, Nat.zero_le _, rfl⟩
  rintro ⟨x7⟩ ⟨i, g1, g2, g3⟩
  simp only at g1
  subst g1
  by_cases hi : i < L
  · have hd : e86_0_0 p ⟨i⟩ = false := by
      show cnd (decide ((i:Int) < p.nh1_1)) false true = false
      rw [decide_eq_true (by omega)]; rfl
    have e10 : e86_0_10 p ⟨i⟩ = i := by show 0 + (i:Int).toNat = i; omega
    have e11 : e86_0_11 p ⟨i⟩ = (p.F0_0 i == a) := by unfold e86_0_11; rw [e10, h1]
    have w9 : IntKind.i64.wrap ((i:Int) + 1) = ((i + 1:Nat):Int) := by rw [wrap_i64 (by omega) (by omega)]; omega
    have nb : (0:Int) ≤ i ∧ (i:Int) < p.nh1_1 := by omega
    have nc : e86_0_10 p ⟨i⟩ < p.N0 := by rw [e10, hN]; exact hi
    rw [pl_drop hi] at g3
    cases hh : p.F0_0 i == a with
    | true =>
      have e6 : e86_0_6 p ⟨i⟩ = true := by show e86_0_11 p ⟨i⟩ = true; rw [e11, hh]
      refine ⟨?_, .inl ⟨?_, ?_⟩⟩
      · simp only [r86_0, hd, e6, Tr.ok]
        exact ⟨(fun e => by cases e), fun _ => ⟨nb, nc, fun _ => nb, fun _ => nc, fun _ => trivial, (fun e => by cases e)⟩⟩
      · simp only [r86_0, hd, e6, Tr.get]
        exact ⟨_, _, _, rfl⟩
      · rw [hd, ← g3]
        show e86_0_7 p ⟨i⟩ = _
        unfold e86_0_7 rdL
        rw [e10, List.find?_cons_of_pos (by simpa using hh)]
    | false =>
      have e6 : e86_0_6 p ⟨i⟩ = false := by show e86_0_11 p ⟨i⟩ = false; rw [e11, hh]
      have g4 : rdL ((pl p.F0_0 p.F0_1 L).drop (i + 1)) a = rdL (pl p.F0_0 p.F0_1 L) a := by
        rw [← g3]
        unfold rdL
        rw [List.find?_cons_of_neg (by simp [hh])]
      simp only [r86_0, hd, e6, Tr.ok, Tr.get]
      refine ⟨⟨(fun e => by cases e), fun _ => ⟨nb, nc, fun _ => nb, fun _ => nc, (fun e => by cases e), fun _ => trivial⟩⟩, .inr ⟨_, rfl, ⟨i + 1, w9, hi, g4⟩, ?_⟩⟩
      show L - (IntKind.i64.wrap ((i:Int) + 1)).toNat < L - (i:Int).toNat
      rw [w9]; omega
  · have hd : e86_0_0 p ⟨i⟩ = true := by
      show cnd (decide ((i:Int) < p.nh1_1)) false true = true
      rw [decide_eq_false (by omega)]; rfl
    have hiL : i = L := by omega
    subst hiL
    rw [pl_end] at g3
    refine ⟨?_, .inl ⟨?_, ?_⟩⟩
    · simp only [r86_0, hd, Tr.ok]
      exact ⟨fun _ => trivial, (fun e => by cases e)⟩
    · simp only [r86_0, hd, Tr.get]
      exact ⟨_, _, _, rfl⟩
    · rw [hd, ← g3]; rfl
def pre86 (v : V86) : Prop := v.Q = v.L ∧ v.L ≤ 100000 ∧ 0 ≤ v.at_
theorem n86 (v : V86) (h : pre86 v) : (f86 v).ok ∧ (f86 v).get.1 = .tup [.int .u64 (cnd (errI v.z v.at_ != 0) 0 (rdL (pl v.F v.G v.L) v.at_)), .int .i64 (errI v.z v.at_)] ∧ HOws (f86 v).get.2.1 [HO.row 195 2 v.Q (fun j => [.int .u64 (v.F j), .int .u64 (v.G j)])] := by
  obtain ⟨hQ, hL, h0⟩ := h
  obtain ⟨m1, m2⟩ := l86_0 (p := f86_8 v) (a := v.at_) (L := v.L) (k := 0) rfl rfl hQ hL (s := S86_0.mk 0) rfl
  refine ⟨⟨h0, fun _ => m1, trivial⟩, ?_, .refl _⟩
  show SV.tup [.int .u64 (f86_5 v), .int .i64 (f86_6 v)] = _
  have e5 : f86_5 v = cnd (errI v.z v.at_ != 0) 0 (rdL (pl v.F v.G v.L) v.at_) := by
    show cnd (f86_7 v) 0 _ = _
    exact congrArg (cnd (f86_7 v) 0) m2
  have e6 : f86_6 v = errI v.z v.at_ := by
    unfold f86_6 f86_7
    by_cases he : errI v.z v.at_ = 0
    · rw [he]
      cases cnd (e86_0_0 (f86_8 v) (f86_9 v)) false true <;> rfl
    · rw [show (errI v.z v.at_ != 0) = true from bne_iff_ne.2 he]; rfl
  rw [e5, e6]
theorem wrG_cons (a w:Int) (d : Bool) (x : Int × Int) (r : List (Int × Int)) : wrG a w d (x :: r) = (if d = false ∧ x.1 ≥ a ∧ w ≠ 0 then [(a, w)] else []) ++ ((if x.1 ≠ a then [x] else []) ++ wrG a w (d || decide (x.1 ≥ a)) r) := by
  rw [wrG]
theorem ge_of {x a : Int} {b : Bool} (h : cnd (!b) (decide (x ≥ a)) false = true) : b = false ∧ x ≥ a := by
  cases b
  · exact ⟨rfl, of_decide_eq_true h⟩
  · cases h
theorem not_ge {x a : Int} {b : Bool} (h : cnd (!b) (decide (x ≥ a)) false = false) : ¬ (b = false ∧ x ≥ a) := by
  rintro ⟨rfl, h2⟩
  have h : decide (x ≥ a) = false := h
  rw [decide_eq_true h2] at h; cases h
set_option maxHeartbeats 2000000 in
theorem l85_0 {p : P85_0} {a w : Int} {L : Nat} {B : List (Int × Int)} (h1 : p.x1 = a) (h2 : p.x2 = w) (hn : p.nh1_1 = L) (hN : p.N0 = L) (hL : L ≤ 100000) {s : S85_0} (hs : s.x11 = 0) (hb : s.b10 = false) (h9 : s.n9 = 0) (h3 : s.N3 = 0) (hB : wrG a w false (pl p.F0_0 p.F0_1 L) = B) :
    LT (r85_0 p) s ∧ ((lastS (r85_0 p) s).N3 = (lastS (r85_0 p) s).n9 ∧ (lastS (r85_0 p) s).n9 ≤ L + 1 ∧ pl (lastS (r85_0 p) s).F3_0 (lastS (r85_0 p) s).F3_1 (lastS (r85_0 p) s).n9 ++ wrG a w (lastS (r85_0 p) s).b10 [] = B) := by
  refine LT.post (fun t : S85_0 => ∃ i : Nat, t.x11 = i ∧ i ≤ L ∧ t.N3 = t.n9 ∧ (t.b10 = false → t.n9 ≤ i) ∧ t.n9 ≤ i + 1 ∧ pl t.F3_0 t.F3_1 t.n9 ++ wrG a w t.b10 ((pl p.F0_0 p.F0_1 L).drop i) = B)
    (fun t : S85_0 => t.N3 = t.n9 ∧ t.n9 ≤ L + 1 ∧ pl t.F3_0 t.F3_1 t.n9 ++ wrG a w t.b10 [] = B) (fun t : S85_0 => L - t.x11.toNat) ?_ ⟨0, hs, Nat.zero_le _, by rw [h3, h9], fun _ => by rw [h9]; exact Nat.le_refl _, by rw [h9]; omega, by rw [h9, hb]; exact hB⟩
  rintro ⟨n0, b, x11, n9, H, K⟩ ⟨i, g1, g2, g3, g4, g5, g6⟩
  simp only at g1 g3 g4 g5 g6
  subst g1 g3
  by_cases hi : i < L
  · have hd : e85_0_0 p ⟨n9, b, i, n9, H, K⟩ = false := by
      show cnd (decide ((i:Int) < p.nh1_1)) false true = false
      rw [decide_eq_true (by omega)]; rfl
    have e36 : e85_0_36 p ⟨n9, b, i, n9, H, K⟩ = i := by show 0 + (i:Int).toNat = i; omega
    have e37 : e85_0_37 p ⟨n9, b, i, n9, H, K⟩ = p.F0_0 i := by unfold e85_0_37; rw [e36]
    have e42 : e85_0_42 p ⟨n9, b, i, n9, H, K⟩ = p.F0_1 i := by unfold e85_0_42; rw [e36]
    have w9 : IntKind.i64.wrap ((i:Int) + 1) = ((i + 1:Nat):Int) := by rw [wrap_i64 (by omega) (by omega)]; omega
    have nb : (0:Int) ≤ i ∧ (i:Int) < p.nh1_1 := by omega
    have nc : e85_0_36 p ⟨n9, b, i, n9, H, K⟩ < p.N0 := by rw [e36, hN]; exact hi
    have a1 : (0:Nat) = 0 ∧ n9 ≤ n9 ∧ 1 ≤ 1 ∧ e85_0_39 p ⟨n9, b, i, n9, H, K⟩ * 4096 ≤ 140737488355328 ∧ e85_0_39 p ⟨n9, b, i, n9, H, K⟩ ≤ 9223372036854775807 := by
      show _ ∧ _ ∧ _ ∧ (n9 + 1) * 4096 ≤ _ ∧ n9 + 1 ≤ _
      omega
    have a2 : (0:Nat) = 0 ∧ e85_0_39 p ⟨n9, b, i, n9, H, K⟩ ≤ e85_0_39 p ⟨n9, b, i, n9, H, K⟩ ∧ 1 ≤ 1 ∧ e85_0_41 p ⟨n9, b, i, n9, H, K⟩ * 4096 ≤ 140737488355328 ∧ e85_0_41 p ⟨n9, b, i, n9, H, K⟩ ≤ 9223372036854775807 := by
      show _ ∧ n9 + 1 ≤ n9 + 1 ∧ _ ∧ (n9 + 1 + 1) * 4096 ≤ _ ∧ n9 + 1 + 1 ≤ _
      omega
    rw [pl_drop hi, wrG_cons] at g6
    have e20 : e85_0_20 p ⟨n9, b, i, n9, H, K⟩ = cnd (!b) (decide (p.F0_0 i ≥ a)) false := by
      show cnd (!b) (decide (e85_0_37 p ⟨n9, b, i, n9, H, K⟩ ≥ p.x1)) false = _
      rw [e37, h1]
    have e21 : e85_0_21 p ⟨n9, b, i, n9, H, K⟩ = (w != 0) := by unfold e85_0_21; rw [h2]
    have e22 : e85_0_22 p ⟨n9, b, i, n9, H, K⟩ = (p.F0_0 i != a) := by
      show (e85_0_37 p ⟨n9, b, i, n9, H, K⟩ != p.x1) = _
      rw [e37, h1]
    have w25 : e85_0_25 p ⟨n9, b, i, n9, H, K⟩ = ((i + 1:Nat):Int) := w9
    have mea : L - (e85_0_25 p ⟨n9, b, i, n9, H, K⟩).toNat < L - (i:Int).toNat := by rw [w25]; omega
    have hH : ∀ q, e85_0_26 p ⟨n9, b, i, n9, H, K⟩ q = cnd (Nat.blt q (n9 + 1)) (cnd (Nat.blt q n9) (H q) a) (p.F0_0 i) := fun q => by
      unfold e85_0_26; rw [e37, h1]; rfl
    have hK : ∀ q, e85_0_27 p ⟨n9, b, i, n9, H, K⟩ q = cnd (Nat.blt q (n9 + 1)) (cnd (Nat.blt q n9) (K q) w) (p.F0_1 i) := fun q => by
      unfold e85_0_27; rw [e42, h2]; rfl
    have p30 : pl (e85_0_30 p ⟨n9, b, i, n9, H, K⟩) (e85_0_31 p ⟨n9, b, i, n9, H, K⟩) (n9 + 1) = pl H K n9 ++ [(a, w)] := by
      rw [← pl_snoc]
      exact pl_congr fun j _ => by unfold e85_0_30 e85_0_31; rw [h1, h2]; exact ⟨rfl, rfl⟩
    have p33 : pl (e85_0_33 p ⟨n9, b, i, n9, H, K⟩) (e85_0_34 p ⟨n9, b, i, n9, H, K⟩) (n9 + 1) = pl H K n9 ++ [(p.F0_0 i, p.F0_1 i)] := by
      rw [← pl_snoc]
      exact pl_congr fun j _ => by unfold e85_0_33 e85_0_34; rw [e37, e42]; exact ⟨rfl, rfl⟩
    have p26 : pl (e85_0_26 p ⟨n9, b, i, n9, H, K⟩) (e85_0_27 p ⟨n9, b, i, n9, H, K⟩) (n9 + 1 + 1) = pl H K n9 ++ [(a, w)] ++ [(p.F0_0 i, p.F0_1 i)] := by
      rw [← pl_snoc, ← pl_snoc]
      exact pl_congr fun j _ => ⟨hH j, hK j⟩
    have ok20 : ∀ {X : Prop}, X → (e85_0_2 p ⟨n9, b, i, n9, H, K⟩ ∧ e85_0_3 p ⟨n9, b, i, n9, H, K⟩ ∧ e85_0_4 p ⟨n9, b, i, n9, H, K⟩ ∧ e85_0_5 p ⟨n9, b, i, n9, H, K⟩ ∧ e85_0_6 p ⟨n9, b, i, n9, H, K⟩ ∧ e85_0_7 p ⟨n9, b, i, n9, H, K⟩ ∧ e85_0_8 p ⟨n9, b, i, n9, H, K⟩ ∧ e85_0_9 p ⟨n9, b, i, n9, H, K⟩ ∧ e85_0_10 p ⟨n9, b, i, n9, H, K⟩ ∧ e85_0_11 p ⟨n9, b, i, n9, H, K⟩ ∧ e85_0_12 p ⟨n9, b, i, n9, H, K⟩ ∧ e85_0_13 p ⟨n9, b, i, n9, H, K⟩ ∧ e85_0_14 p ⟨n9, b, i, n9, H, K⟩ ∧ e85_0_15 p ⟨n9, b, i, n9, H, K⟩ ∧ e85_0_16 p ⟨n9, b, i, n9, H, K⟩ ∧ e85_0_17 p ⟨n9, b, i, n9, H, K⟩ ∧ e85_0_18 p ⟨n9, b, i, n9, H, K⟩ ∧ e85_0_19 p ⟨n9, b, i, n9, H, K⟩ ∧ X) := fun hx =>
      ⟨fun _ => nb, fun _ => nc, fun _ _ => a1, fun _ _ => nb, fun _ _ => nc, fun _ _ _ => nb, fun _ _ _ => nc, fun _ _ _ => a2, fun _ _ => nb, fun _ _ => nc, fun _ _ _ => nb, fun _ _ _ => nc, fun _ _ _ => a1, fun _ => nb, fun _ => nc, fun _ _ => nb, fun _ _ => nc, fun _ _ => a1, hx⟩
    cases h20 : cnd (!b) (decide (p.F0_0 i ≥ a)) false with
    | true =>
      obtain ⟨rfl, hge⟩ := ge_of h20
      rw [h20] at e20
      have hbd : (false || decide (p.F0_0 i ≥ a)) = true := by rw [decide_eq_true hge]; rfl
      rw [show ((p.F0_0 i, p.F0_1 i) : Int × Int).1 = p.F0_0 i from rfl, hbd] at g6
      by_cases hw : w = 0
      · have e21' : e85_0_21 p ⟨n9, false, i, n9, H, K⟩ = false := by rw [e21, hw]; rfl
        rw [if_neg (fun e => e.2.2 hw)] at g6
        by_cases hx : p.F0_0 i = a
        · have e22' : e85_0_22 p ⟨n9, false, i, n9, H, K⟩ = false := by rw [e22, hx]; exact bne_self_eq_false _
          rw [if_neg (fun e => e hx)] at g6
          simp only [r85_0, hd, e20, e21', e22', Tr.ok, Tr.get]
          exact ⟨⟨(fun e => by cases e), fun _ => ok20 ⟨fun _ => ⟨(fun e => by cases e), fun _ => ⟨(fun e => by cases e), fun _ => trivial⟩⟩, (fun e => by cases e)⟩⟩, .inr ⟨_, rfl, ⟨i + 1, w25, hi, rfl, (fun e => by cases e), by show n9 ≤ i + 1 + 1; omega, g6⟩, mea⟩⟩
        · have e22' : e85_0_22 p ⟨n9, false, i, n9, H, K⟩ = true := by rw [e22]; exact bne_iff_ne.2 hx
          rw [if_pos hx] at g6
          simp only [r85_0, hd, e20, e21', e22', Tr.ok, Tr.get]
          refine ⟨⟨(fun e => by cases e), fun _ => ok20 ⟨fun _ => ⟨(fun e => by cases e), fun _ => ⟨fun _ => trivial, (fun e => by cases e)⟩⟩, (fun e => by cases e)⟩⟩, .inr ⟨_, rfl, ⟨i + 1, w25, hi, rfl, (fun e => by cases e), by show n9 + 1 ≤ i + 1 + 1; omega, ?_⟩, mea⟩⟩
          show pl (e85_0_33 p ⟨n9, false, i, n9, H, K⟩) (e85_0_34 p ⟨n9, false, i, n9, H, K⟩) (n9 + 1) ++ _ = B
          rw [p33, ← g6]
          simp
      · have e21' : e85_0_21 p ⟨n9, false, i, n9, H, K⟩ = true := by rw [e21]; exact bne_iff_ne.2 hw
        rw [if_pos ⟨rfl, hge, hw⟩] at g6
        by_cases hx : p.F0_0 i = a
        · have e22' : e85_0_22 p ⟨n9, false, i, n9, H, K⟩ = false := by rw [e22, hx]; exact bne_self_eq_false _
          rw [if_neg (fun e => e hx)] at g6
          simp only [r85_0, hd, e20, e21', e22', Tr.ok, Tr.get]
          refine ⟨⟨(fun e => by cases e), fun _ => ok20 ⟨fun _ => ⟨fun _ => ⟨(fun e => by cases e), fun _ => trivial⟩, (fun e => by cases e)⟩, (fun e => by cases e)⟩⟩, .inr ⟨_, rfl, ⟨i + 1, w25, hi, rfl, (fun e => by cases e), by show n9 + 1 ≤ i + 1 + 1; omega, ?_⟩, mea⟩⟩
          show pl (e85_0_30 p ⟨n9, false, i, n9, H, K⟩) (e85_0_31 p ⟨n9, false, i, n9, H, K⟩) (n9 + 1) ++ _ = B
          rw [p30, ← g6]
          simp
        · have e22' : e85_0_22 p ⟨n9, false, i, n9, H, K⟩ = true := by rw [e22]; exact bne_iff_ne.2 hx
          rw [if_pos hx] at g6
          have := g4 rfl
          simp only [r85_0, hd, e20, e21', e22', Tr.ok, Tr.get]
          refine ⟨⟨(fun e => by cases e), fun _ => ok20 ⟨fun _ => ⟨fun _ => ⟨fun _ => trivial, (fun e => by cases e)⟩, (fun e => by cases e)⟩, (fun e => by cases e)⟩⟩, .inr ⟨_, rfl, ⟨i + 1, w25, hi, rfl, (fun e => by cases e), by show n9 + 1 + 1 ≤ i + 1 + 1; omega, ?_⟩, mea⟩⟩
          show pl (e85_0_26 p ⟨n9, false, i, n9, H, K⟩) (e85_0_27 p ⟨n9, false, i, n9, H, K⟩) (n9 + 1 + 1) ++ _ = B
          rw [p26, ← g6]
          simp
    | false =>
      rw [h20] at e20
      have hng := not_ge h20
      rw [show ((p.F0_0 i, p.F0_1 i) : Int × Int).1 = p.F0_0 i from rfl, if_neg (fun e => hng ⟨e.1, e.2.1⟩)] at g6
      have hbd : (b || decide (p.F0_0 i ≥ a)) = b := by
        cases b
        · rw [decide_eq_false fun e => hng ⟨rfl, e⟩]; rfl
        · rfl
      rw [hbd] at g6
      by_cases hx : p.F0_0 i = a
      · have e22' : e85_0_22 p ⟨n9, b, i, n9, H, K⟩ = false := by rw [e22, hx]; exact bne_self_eq_false _
        rw [if_neg (fun e => e hx)] at g6
        simp only [r85_0, hd, e20, e22', Tr.ok, Tr.get]
        exact ⟨⟨(fun e => by cases e), fun _ => ok20 ⟨(fun e => by cases e), fun _ => ⟨(fun e => by cases e), fun _ => trivial⟩⟩⟩, .inr ⟨_, rfl, ⟨i + 1, w25, hi, rfl, (fun e => by have := g4 e; show n9 ≤ i + 1; omega), by show n9 ≤ i + 1 + 1; omega, g6⟩, mea⟩⟩
      · have e22' : e85_0_22 p ⟨n9, b, i, n9, H, K⟩ = true := by rw [e22]; exact bne_iff_ne.2 hx
        rw [if_pos hx] at g6
        simp only [r85_0, hd, e20, e22', Tr.ok, Tr.get]
        refine ⟨⟨(fun e => by cases e), fun _ => ok20 ⟨(fun e => by cases e), fun _ => ⟨fun _ => trivial, (fun e => by cases e)⟩⟩⟩, .inr ⟨_, rfl, ⟨i + 1, w25, hi, rfl, (fun e => by have := g4 e; show n9 + 1 ≤ i + 1; omega), by show n9 + 1 ≤ i + 1 + 1; omega, ?_⟩, mea⟩⟩
        show pl (e85_0_33 p ⟨n9, b, i, n9, H, K⟩) (e85_0_34 p ⟨n9, b, i, n9, H, K⟩) (n9 + 1) ++ _ = B
        rw [p33, ← g6]
        simp
  · have hd : e85_0_0 p ⟨n9, b, i, n9, H, K⟩ = true := by
      show cnd (decide ((i:Int) < p.nh1_1)) false true = true
      rw [decide_eq_false (by omega)]; rfl
    have hiL : i = L := by omega
    subst hiL
    rw [pl_end] at g6
    refine ⟨?_, .inl ⟨?_, rfl, g5, g6⟩⟩
    · simp only [r85_0, hd, Tr.ok]
      exact ⟨fun _ => trivial, (fun e => by cases e)⟩
    · simp only [r85_0, hd, Tr.get]
      exact ⟨_, _, _, rfl⟩
def PQ85 (z:Int) (Q L:Nat) (a:Int) : Prop := Q = L ∧ L ≤ 100000 ∧ 0 ≤ a
def pre85 (v : V85) : Prop := PQ85 v.z v.Q v.L v.at_
theorem rowA2 {F G : Nat → Int} {Q L : Nat} (h : Q = L) : HOw (R := th.R) (.row 195 2 Q (fun j => [.int .u64 (F j), .int .u64 (G j)])) (rowP (pl F G L)) := by
  subst h; exact rowP_of rfl
theorem n85 (v : V85) (h : pre85 v) : (f85 v).ok ∧ (f85 v).get.1 = .tup [.agg [.int .u64 v.z, .slc 1 2 0 (wrR v.z (pl v.F v.G v.L) v.at_ v.w).length], .int .i64 (errI v.z v.at_)] ∧ HOws (f85 v).get.2.1 [HO.gone, rowP (wrR v.z (pl v.F v.G v.L) v.at_ v.w)] := by
  obtain ⟨hQ, hL, h0⟩ := h
  obtain ⟨m1, m2, m3, m4⟩ := l85_0 (p := P85_0.mk v.at_ v.w v.Q v.F v.G v.z v.L 0) (a := v.at_) (w := v.w) (L := v.L) rfl rfl rfl hQ hL (s := S85_0.mk 0 false 0 0 (colI (fun (j:Nat) => []) 0) (colI (fun (j:Nat) => []) 1)) rfl rfl rfl rfl rfl
  have m2 : f85_22 v = f85_21 v := m2
  have m3 : f85_21 v ≤ v.L + 1 := m3
  have m4 : pl (f85_19 v).F3_0 (f85_19 v).F3_1 (f85_21 v) ++ wrG v.at_ v.w (f85_19 v).b10 [] = wrG v.at_ v.w false (pl v.F v.G v.L) := m4
  have hok : (f85 v).ok := ⟨h0, fun _ => m1, fun _ _ => ⟨rfl, by rw [m2]; exact Nat.le_refl _, Nat.le_refl _, by show (f85_21 v + 1) * 4096 ≤ _; omega, by show f85_21 v + 1 ≤ _; omega⟩, ⟨fun _ => trivial, fun _ => ⟨fun _ => trivial, fun _ => trivial⟩⟩⟩
  refine ⟨hok, ?_⟩
  have hw : wrR v.z (pl v.F v.G v.L) v.at_ v.w = cnd (f85_18 v) (pl v.F v.G v.L) (wrG v.at_ v.w false (pl v.F v.G v.L)) := rfl
  rw [hw]
  cases h18 : f85_18 v with
  | true =>
    have h6 : f85_6 v = true := h18
    simp only [f85, h6, Tr.get]
    refine ⟨?_, .cons (.inl rfl) (.cons (rowA2 hQ) .nil)⟩
    show SV.tup [.agg [.int .u64 v.z, .slc 1 2 0 v.L], .int .i64 (errI v.z v.at_)] = SV.tup [.agg [.int .u64 v.z, .slc 1 2 0 (pl v.F v.G v.L).length], .int .i64 (errI v.z v.at_)]
    rw [pl_len]
  | false =>
    have h6 : f85_6 v = false := h18
    have he : errI v.z v.at_ = 0 := by
      have : (errI v.z v.at_ != 0) = false := h18
      simpa using this
    cases h20 : f85_20 v with
    | true =>
      have h8 : f85_8 v = true := h20
      have hbw : (f85_19 v).b10 = false ∧ v.w ≠ 0 := by
        have : cnd (!(f85_19 v).b10) (v.w != 0) false = true := h20
        cases hb : (f85_19 v).b10 with
        | true => rw [hb] at this; cases this
        | false => rw [hb] at this; exact ⟨rfl, by simpa using (show (v.w != 0) = true from this)⟩
      rw [show wrG v.at_ v.w (f85_19 v).b10 [] = [(v.at_, v.w)] by unfold wrG; rw [if_pos hbw]] at m4
      have hp : pl (f85_11 v) (f85_12 v) (f85_21 v + 1) = wrG v.at_ v.w false (pl v.F v.G v.L) := by rw [← m4, ← pl_snoc]; rfl
      simp only [f85, h6, h8, Tr.get]
      refine ⟨?_, .cons (.inr (.inl rfl)) (.cons (rowP_of hp) .nil)⟩
      show SV.tup [.agg [.int .u64 v.z, .slc 1 2 0 (f85_21 v + 1)], .int .i64 0] = SV.tup [.agg [.int .u64 v.z, .slc 1 2 0 (wrG v.at_ v.w false (pl v.F v.G v.L)).length], .int .i64 (errI v.z v.at_)]
      rw [← hp, pl_len, he]
    | false =>
      have h8 : f85_8 v = false := h20
      have hbw : ¬ ((f85_19 v).b10 = false ∧ v.w ≠ 0) := by
        rintro ⟨e1, e2⟩
        have : cnd (!(f85_19 v).b10) (v.w != 0) false = false := h20
        rw [e1] at this
        have : (v.w != 0) = false := this
        exact e2 (by simpa using this)
      rw [show wrG v.at_ v.w (f85_19 v).b10 [] = [] by unfold wrG; rw [if_neg hbw], List.append_nil] at m4
      simp only [f85, h6, h8, Tr.get]
      refine ⟨?_, .cons (.inr (.inl rfl)) (.cons ?_ .nil)⟩
      · show SV.tup [.agg [.int .u64 v.z, .slc 1 2 0 (f85_21 v)], .int .i64 0] = SV.tup [.agg [.int .u64 v.z, .slc 1 2 0 (wrG v.at_ v.w false (pl v.F v.G v.L)).length], .int .i64 (errI v.z v.at_)]
        rw [← m4, pl_len, he]
      · show HOw (.row 195 2 (f85_22 v) _) _
        rw [m2]
        exact rowP_of m4
set_option maxRecDepth 100000
theorem l87_0 {p : P87_0} {a n : Int} {L : Nat} {B : List (Int × Int)} (h1 : p.x1 = a) (h2 : p.x2 = n) (hn : p.nh1_1 = L) (hN : p.N0 = L) (hL : L ≤ 100000) (hb : 0 ≤ a + n ∧ a + n < 18446744073709551616) {s : S87_0} (hs : s.x9 = 0) (h8 : s.n8 = 0) (h3 : s.N3 = 0) (hB : (pl p.F0_0 p.F0_1 L).filter (fun x => !decide (a ≤ x.1 ∧ x.1 < a + n)) = B) :
    LT (r87_0 p) s ∧ ((lastS (r87_0 p) s).N3 = (lastS (r87_0 p) s).n8 ∧ pl (lastS (r87_0 p) s).F3_0 (lastS (r87_0 p) s).F3_1 (lastS (r87_0 p) s).n8 = B) := by
  refine LT.post (fun t : S87_0 => ∃ i : Nat, t.x9 = i ∧ i ≤ L ∧ t.N3 = t.n8 ∧ t.n8 ≤ i ∧ pl t.F3_0 t.F3_1 t.n8 ++ ((pl p.F0_0 p.F0_1 L).drop i).filter (fun x => !decide (a ≤ x.1 ∧ x.1 < a + n)) = B)
    (fun t : S87_0 => t.N3 = t.n8 ∧ pl t.F3_0 t.F3_1 t.n8 = B) (fun t : S87_0 => L - t.x9.toNat) ?_ ⟨0, hs, Nat.zero_le _, by rw [h3, h8], by rw [h8]; exact Nat.le_refl _, by rw [h8]; exact hB⟩
  rintro ⟨n0, x9, n8, H, K⟩ ⟨i, g1, g2, g3, g4, g6⟩
  simp only at g1 g3 g4 g6
  subst g1 g3
  by_cases hi : i < L
  · have hd : e87_0_0 p ⟨n8, i, n8, H, K⟩ = false := by
      show cnd (decide ((i:Int) < p.nh1_1)) false true = false
      rw [decide_eq_true (by omega)]; rfl
    have e16 : e87_0_16 p ⟨n8, i, n8, H, K⟩ = i := by show 0 + (i:Int).toNat = i; omega
    have e17 : e87_0_17 p ⟨n8, i, n8, H, K⟩ = p.F0_0 i := by unfold e87_0_17; rw [e16]
    have e19 : e87_0_19 p ⟨n8, i, n8, H, K⟩ = a + n := by unfold e87_0_19; rw [h1, h2]; exact wrap_u64_id hb.1 hb.2
    have nb : (0:Int) ≤ i ∧ (i:Int) < p.nh1_1 := by omega
    have nc : e87_0_16 p ⟨n8, i, n8, H, K⟩ < p.N0 := by rw [e16, hN]; exact hi
    have a1 : (0:Nat) = 0 ∧ n8 ≤ n8 ∧ 1 ≤ 1 ∧ e87_0_21 p ⟨n8, i, n8, H, K⟩ * 4096 ≤ 140737488355328 ∧ e87_0_21 p ⟨n8, i, n8, H, K⟩ ≤ 9223372036854775807 := by
      show _ ∧ _ ∧ _ ∧ (n8 + 1) * 4096 ≤ _ ∧ n8 + 1 ≤ _
      omega
    have e9 : e87_0_9 p ⟨n8, i, n8, H, K⟩ = !decide (a ≤ p.F0_0 i ∧ p.F0_0 i < a + n) := by
      show cnd (decide (e87_0_17 p ⟨n8, i, n8, H, K⟩ < p.x1)) true (decide (e87_0_17 p ⟨n8, i, n8, H, K⟩ ≥ e87_0_19 p ⟨n8, i, n8, H, K⟩)) = _
      rw [e17, e19, h1, ← decide_not]
      by_cases hx : p.F0_0 i < a
      · rw [decide_eq_true hx, decide_eq_true (show ¬ (a ≤ p.F0_0 i ∧ p.F0_0 i < a + n) by omega)]; rfl
      · rw [decide_eq_false hx]
        exact decide_eq_decide.2 (by omega)
    have w12 : e87_0_12 p ⟨n8, i, n8, H, K⟩ = ((i + 1:Nat):Int) := by show IntKind.i64.wrap ((i:Int) + 1) = _; rw [wrap_i64 (by omega) (by omega)]; omega
    have mea : L - (e87_0_12 p ⟨n8, i, n8, H, K⟩).toNat < L - (i:Int).toNat := by rw [w12]; omega
    have p13 : pl (e87_0_13 p ⟨n8, i, n8, H, K⟩) (e87_0_14 p ⟨n8, i, n8, H, K⟩) (n8 + 1) = pl H K n8 ++ [(p.F0_0 i, p.F0_1 i)] := by
      rw [← pl_snoc]
      exact pl_congr fun j _ => by unfold e87_0_13 e87_0_14; rw [e17, e16]; exact ⟨rfl, rfl⟩
    rw [pl_drop hi] at g6
    cases hc : !decide (a ≤ p.F0_0 i ∧ p.F0_0 i < a + n) with
    | true =>
      rw [hc] at e9
      rw [List.filter_cons_of_pos (by exact hc)] at g6
      simp only [r87_0, hd, e9, Tr.ok, Tr.get]
      refine ⟨⟨(fun e => by cases e), fun _ => ⟨nb, nc, fun _ => nb, fun _ => nc, fun _ => nb, fun _ => nc, fun _ => a1, fun _ => trivial, (fun e => by cases e)⟩⟩, .inr ⟨_, rfl, ⟨i + 1, w12, hi, rfl, by show n8 + 1 ≤ i + 1; omega, ?_⟩, mea⟩⟩
      show pl (e87_0_13 p ⟨n8, i, n8, H, K⟩) (e87_0_14 p ⟨n8, i, n8, H, K⟩) (n8 + 1) ++ _ = B
      rw [p13, ← g6]
      simp
    | false =>
      rw [hc] at e9
      rw [List.filter_cons_of_neg (by rw [hc]; simp)] at g6
      simp only [r87_0, hd, e9, Tr.ok, Tr.get]
      exact ⟨⟨(fun e => by cases e), fun _ => ⟨nb, nc, fun _ => nb, fun _ => nc, fun _ => nb, fun _ => nc, fun _ => a1, (fun e => by cases e), fun _ => trivial⟩⟩, .inr ⟨_, rfl, ⟨i + 1, w12, hi, rfl, by show n8 ≤ i + 1; omega, g6⟩, mea⟩⟩
  · have hd : e87_0_0 p ⟨n8, i, n8, H, K⟩ = true := by
      show cnd (decide ((i:Int) < p.nh1_1)) false true = true
      rw [decide_eq_false (by omega)]; rfl
    have hiL : i = L := by omega
    subst hiL
    rw [pl_end] at g6
    refine ⟨?_, .inl ⟨?_, rfl, ?_⟩⟩
    · simp only [r87_0, hd, Tr.ok]
      exact ⟨fun _ => trivial, (fun e => by cases e)⟩
    · simp only [r87_0, hd, Tr.get]
      exact ⟨_, _, _, rfl⟩
    · rw [← g6]; simp
def pre87 (v : V87) : Prop := v.Q = v.L ∧ v.L ≤ 100000 ∧ 0 ≤ v.at_ ∧ 0 ≤ v.n ∧ 0 ≤ v.z ∧ v.z ≤ 4294967296
theorem n87 (v : V87) (h : pre87 v) : (f87 v).ok ∧ (f87 v).get.1 = .tup [.agg [.int .u64 v.z, .slc 1 2 0 (clR v.z (pl v.F v.G v.L) v.at_ v.n).length], .int .i64 (errC v.z v.at_ v.n)] ∧ HOws (f87 v).get.2.1 [HO.gone, rowP (clR v.z (pl v.F v.G v.L) v.at_ v.n)] := by
  obtain ⟨hQ, hL, h0, hn, hz0, hz1⟩ := h
  have e13 : f87_13 v = !(cnd (decide (v.at_ % 8 = 0)) (decide (v.n % 8 = 0)) false) := by
    show cnd (v.at_.tmod 8 != 0) true (v.n.tmod 8 != 0) = _
    rw [Int.tmod_eq_emod_of_nonneg h0, Int.tmod_eq_emod_of_nonneg hn]
    by_cases q1 : v.at_ % 8 = 0
    · rw [show (v.at_ % 8 != 0) = false by rw [q1]; rfl, decide_eq_true q1]; rfl
    · rw [show (v.at_ % 8 != 0) = true from bne_iff_ne.2 q1, decide_eq_false q1]; rfl
  have e15 : f87_15 v = !(cnd (decide (v.at_ ≤ v.z)) (decide (v.n ≤ v.z - v.at_)) false) := by
    show cnd (decide (v.at_ > v.z)) true (decide (v.n > IntKind.u64.wrap (v.z - v.at_))) = _
    by_cases q1 : v.at_ ≤ v.z
    · rw [decide_eq_true q1, decide_eq_false (show ¬ v.at_ > v.z by omega), wrap_u64_id (show 0 ≤ v.z - v.at_ by omega) (by omega)]
      show decide (v.n > v.z - v.at_) = !decide (v.n ≤ v.z - v.at_)
      rw [← decide_not]
      exact decide_eq_decide.2 (by omega)
    · rw [decide_eq_false q1, decide_eq_true (show v.at_ > v.z by omega)]; rfl
  have hc : errC v.z v.at_ v.n = cnd (f87_13 v) 13 (cnd (f87_15 v) 12 0) := by
    unfold errC
    rw [e13, e15]
    cases cnd (decide (v.at_ % 8 = 0)) (decide (v.n % 8 = 0)) false <;> cases cnd (decide (v.at_ ≤ v.z)) (decide (v.n ≤ v.z - v.at_)) false <;> rfl
  have hA := rowA2 (F := v.F) (G := v.G) hQ
  cases h13 : f87_13 v with
  | true =>
    have h4 : f87_4 v = true := h13
    rw [h13] at hc
    have hr : clR v.z (pl v.F v.G v.L) v.at_ v.n = pl v.F v.G v.L := by unfold clR; rw [hc]; rfl
    rw [hr, hc]
    refine ⟨⟨(fun e => by rw [h13] at e; cases e), fun _ => trivial, fun _ => ⟨fun _ => trivial, fun _ => trivial⟩⟩, ?_⟩
    simp only [f87, h4, Tr.get]
    exact ⟨by rw [pl_len]; rfl, .cons (.inl rfl) (.cons hA .nil)⟩
  | false =>
    have h4 : f87_4 v = false := h13
    rw [h13] at hc
    cases h15 : f87_15 v with
    | true =>
      have h6 : f87_6 v = true := h15
      rw [h15] at hc
      have hr : clR v.z (pl v.F v.G v.L) v.at_ v.n = pl v.F v.G v.L := by unfold clR; rw [hc]; rfl
      rw [hr, hc]
      refine ⟨⟨(fun _ e => by rw [h15] at e; cases e), fun _ => trivial, fun _ => ⟨fun _ => trivial, fun _ => trivial⟩⟩, ?_⟩
      simp only [f87, h4, h6, Tr.get]
      exact ⟨by rw [pl_len]; rfl, .cons (.inl rfl) (.cons hA .nil)⟩
    | false =>
      have h6 : f87_6 v = false := h15
      rw [h15] at hc
      have he : errC v.z v.at_ v.n = 0 := hc
      obtain ⟨_, _, k3, k4⟩ := errC_ok he
      have hr : clR v.z (pl v.F v.G v.L) v.at_ v.n = (pl v.F v.G v.L).filter (fun x => !decide (v.at_ ≤ x.1 ∧ x.1 < v.at_ + v.n)) := by unfold clR; rw [he]; rfl
      obtain ⟨m1, m2, m3⟩ := l87_0 (p := P87_0.mk v.at_ v.n v.Q v.F v.G v.z v.L 0) (a := v.at_) (n := v.n) (L := v.L) rfl rfl rfl hQ hL ⟨by omega, by omega⟩ (s := S87_0.mk 0 0 0 (colI (fun (j:Nat) => []) 0) (colI (fun (j:Nat) => []) 1)) rfl rfl rfl hr.symm
      have m2 : f87_9 v = f87_8 v := m2
      have m3 : pl (f87_10 v) (f87_11 v) (f87_8 v) = clR v.z (pl v.F v.G v.L) v.at_ v.n := m3
      refine ⟨⟨fun _ _ => m1, fun _ => trivial, fun _ => ⟨fun _ => trivial, fun _ => trivial⟩⟩, ?_⟩
      rw [hc]
      simp only [f87, h4, h6, Tr.get]
      refine ⟨?_, .cons (.inr (.inl rfl)) (.cons ?_ .nil)⟩
      · rw [← m3, pl_len]; rfl
      · rw [m2]
        exact rowP_of m3
/-! ### Pages -/
def ov (F : Nat → Int) (n:Nat) : Option Int := match n with
  | 0 => none
  | k + 1 => some (F k)
theorem ls_snoc2 {F : Nat → Int} {n : Nat} {x : Int} : ls (fun j => cnd (Nat.blt j n) (F j) x) (n + 1) = ls F n ++ [x] := by
  unfold ls
  rw [List.range_succ, List.map_append]
  have hb : Nat.blt n n = false := by
    cases hb : Nat.blt n n with
    | false => rfl
    | true => rw [Nat.blt_eq] at hb; omega
  congr 1
  · apply List.map_congr_left
    intro j hj
    have : Nat.blt j n = true := by rw [Nat.blt_eq]; exact List.mem_range.1 hj
    show cnd (Nat.blt j n) (F j) x = _
    rw [this]; rfl
  · show [cnd (Nat.blt n n) (F n) x] = _
    rw [hb]; rfl
theorem l155_0 {p : P155_0} {L : Nat} {B : List Int} (hn : p.nh1_1 = L) (hN : p.N0 = L) (hL : L ≤ 100000) (hu : ∀ j, j < L → U64 (p.F0_0 j)) {s : S155_0} (hs : s.x4 = 0) (h3 : s.n3 = 0) (h2 : s.N2 = 0) (hB : pgG none (pl p.F0_0 p.F0_1 L) = B) :
    LT (r155_0 p) s ∧ ((lastS (r155_0 p) s).N2 = (lastS (r155_0 p) s).n3 ∧ ls (lastS (r155_0 p) s).F2_0 (lastS (r155_0 p) s).n3 = B) := by
  refine LT.post (fun t : S155_0 => ∃ i : Nat, t.x4 = i ∧ i ≤ L ∧ t.N2 = t.n3 ∧ t.n3 ≤ i ∧ ls t.F2_0 t.n3 ++ pgG (ov t.F2_0 t.n3) ((pl p.F0_0 p.F0_1 L).drop i) = B)
    (fun t : S155_0 => t.N2 = t.n3 ∧ ls t.F2_0 t.n3 = B) (fun t : S155_0 => L - t.x4.toNat) ?_ ⟨0, hs, Nat.zero_le _, by rw [h3, h2], by rw [h3]; exact Nat.le_refl _, by rw [h3]; exact hB⟩
  rintro ⟨n0, x4, n3, H⟩ ⟨i, g1, g2, g3, g4, g6⟩
  simp only at g1 g3 g4 g6
  subst g1 g3
  by_cases hi : i < L
  · have hd : e155_0_0 p ⟨n3, i, n3, H⟩ = false := by
      show cnd (decide ((i:Int) < p.nh1_1)) false true = false
      rw [decide_eq_true (by omega)]; rfl
    have e12 : e155_0_12 p ⟨n3, i, n3, H⟩ = i := by show 0 + (i:Int).toNat = i; omega
    have u := hu i hi
    have u0 := u.1
    have u1 := u.2
    have e17 : e155_0_17 p ⟨n3, i, n3, H⟩ = p.F0_0 i - p.F0_0 i % 4096 := by
      unfold e155_0_17 e155_0_16
      rw [e12, Int.tmod_eq_emod_of_nonneg u0]
      exact wrap_u64_id (by omega) (by omega)
    have nb : (0:Int) ≤ i ∧ (i:Int) < p.nh1_1 := by omega
    have nc : e155_0_12 p ⟨n3, i, n3, H⟩ < p.N0 := by rw [e12, hN]; exact hi
    have a1 : (0:Nat) = 0 ∧ n3 ≤ n3 ∧ 1 ≤ 1 ∧ e155_0_19 p ⟨n3, i, n3, H⟩ * 4096 ≤ 140737488355328 ∧ e155_0_19 p ⟨n3, i, n3, H⟩ ≤ 9223372036854775807 := by
      show _ ∧ _ ∧ _ ∧ (n3 + 1) * 4096 ≤ _ ∧ n3 + 1 ≤ _
      omega
    have e14 : 0 < n3 → e155_0_14 p ⟨n3, i, n3, H⟩ = ((n3 - 1:Nat):Int) := fun hp => by
      show IntKind.i64.wrap ((n3:Int) - 1) = _
      rw [wrap_i64 (by omega) (by omega)]; omega
    have e13 : cnd (!e155_0_13 p ⟨n3, i, n3, H⟩) true false = true → 0 < n3 := fun e => by
      rcases Nat.eq_zero_or_pos n3 with h | h
      · subst h; cases e
      · exact h
    have c3 : e155_0_3 p ⟨n3, i, n3, H⟩ := fun e => by
      rw [e14 (e13 e)]
      have := e13 e
      exact ⟨by omega, by show ((n3 - 1:Nat):Int) < n3; omega⟩
    have c4 : e155_0_4 p ⟨n3, i, n3, H⟩ := fun e => by
      unfold e155_0_15
      rw [e14 (e13 e)]
      have := e13 e
      show 0 + ((n3 - 1:Nat):Int).toNat < n3
      omega
    have e6 : e155_0_6 p ⟨n3, i, n3, H⟩ = !decide (ov H n3 = some (p.F0_0 i - p.F0_0 i % 4096)) := by
      show cnd (((n3:Nat):Int) == 0) true (H (e155_0_15 p ⟨n3, i, n3, H⟩) != e155_0_17 p ⟨n3, i, n3, H⟩) = _
      rw [e17]
      cases n3 with
      | zero => rfl
      | succ k =>
        have : (((k + 1:Nat):Int) == 0) = false := beq_eq_false_iff_ne.2 (by omega)
        rw [this]
        have e15 : e155_0_15 p ⟨k + 1, i, k + 1, H⟩ = k := by
          unfold e155_0_15
          rw [e14 (by omega)]
          show 0 + ((k + 1 - 1:Nat):Int).toNat = k
          omega
        rw [e15]
        show (H k != _) = !decide (some (H k) = some _)
        by_cases hh : H k = p.F0_0 i - p.F0_0 i % 4096
        · rw [hh]; simp
        · rw [show (H k != p.F0_0 i - p.F0_0 i % 4096) = true from bne_iff_ne.2 hh, decide_eq_false fun e => hh (Option.some.inj e)]; rfl
    have w9 : e155_0_9 p ⟨n3, i, n3, H⟩ = ((i + 1:Nat):Int) := by show IntKind.i64.wrap ((i:Int) + 1) = _; rw [wrap_i64 (by omega) (by omega)]; omega
    have mea : L - (e155_0_9 p ⟨n3, i, n3, H⟩).toNat < L - (i:Int).toNat := by rw [w9]; omega
    rw [pl_drop hi] at g6
    unfold pgG at g6
    have c2 : e155_0_2 p ⟨n3, i, n3, H⟩ := ⟨fun _ => nb, fun _ => nc, fun _ => nb, fun _ => nc, fun _ => by decide⟩
    by_cases hc : ov H n3 = some (p.F0_0 i - p.F0_0 i % 4096)
    · rw [decide_eq_true hc] at e6
      rw [if_pos hc] at g6
      have e6 : e155_0_6 p ⟨n3, i, n3, H⟩ = false := e6
      simp only [r155_0, hd, e6, Tr.ok, Tr.get]
      exact ⟨⟨(fun e => by cases e), fun _ => ⟨c2, c3, c4, fun _ => a1, (fun e => by cases e), fun _ => trivial⟩⟩, .inr ⟨_, rfl, ⟨i + 1, w9, hi, rfl, by show n3 ≤ i + 1; omega, g6⟩, mea⟩⟩
    · rw [decide_eq_false hc] at e6
      rw [if_neg hc] at g6
      have e6 : e155_0_6 p ⟨n3, i, n3, H⟩ = true := e6
      simp only [r155_0, hd, e6, Tr.ok, Tr.get]
      refine ⟨⟨(fun e => by cases e), fun _ => ⟨c2, c3, c4, fun _ => a1, fun _ => trivial, (fun e => by cases e)⟩⟩, .inr ⟨_, rfl, ⟨i + 1, w9, hi, rfl, by show n3 + 1 ≤ i + 1; omega, ?_⟩, mea⟩⟩
      have hF : (fun j => e155_0_10 p ⟨n3, i, n3, H⟩ j) = fun j => cnd (Nat.blt j n3) (H j) (p.F0_0 i - p.F0_0 i % 4096) := by
        funext j
        unfold e155_0_10
        rw [e17]
      show ls (fun j => e155_0_10 p ⟨n3, i, n3, H⟩ j) (n3 + 1) ++ pgG (some (e155_0_10 p ⟨n3, i, n3, H⟩ n3)) _ = B
      have hl : e155_0_10 p ⟨n3, i, n3, H⟩ n3 = p.F0_0 i - p.F0_0 i % 4096 := by
        rw [congrFun hF n3]
        have hb : Nat.blt n3 n3 = false := by
          cases hb : Nat.blt n3 n3 with
          | false => rfl
          | true => rw [Nat.blt_eq] at hb; omega
        rw [hb]; rfl
      rw [hF, hl, ls_snoc2, ← g6]
      simp
  · have hd : e155_0_0 p ⟨n3, i, n3, H⟩ = true := by
      show cnd (decide ((i:Int) < p.nh1_1)) false true = true
      rw [decide_eq_false (by omega)]; rfl
    have hiL : i = L := by omega
    subst hiL
    rw [pl_end] at g6
    refine ⟨?_, .inl ⟨?_, rfl, ?_⟩⟩
    · simp only [r155_0, hd, Tr.ok]
      exact ⟨fun _ => trivial, (fun e => by cases e)⟩
    · simp only [r155_0, hd, Tr.get]
      exact ⟨_, _, _, rfl⟩
    · rw [← g6]; unfold pgG; simp
def gI (l : List Int) (j:Nat) : Int := l.getD j 0
def rowI (l : List Int) : HO th.R := .row 22 1 l.length (fun j => [.int .u64 (gI l j)])
theorem rowI_of {F : Nat → Int} {n : Nat} {l : List Int} (h : ls F n = l) : HOw (R := th.R) (.row 22 1 n (fun j => [.int .u64 (F j)])) (rowI l) := by
  subst h
  unfold rowI
  rw [ls_len]
  exact .row fun j hj => by
    unfold gI ls
    simp [List.getD, hj]
def pre155 (v : V155) : Prop := v.Q = v.L ∧ v.L ≤ 100000 ∧ ∀ j, j < v.L → U64 (v.F j)
theorem n155 (v : V155) (h : pre155 v) : (f155 v).ok ∧ (f155 v).get.1 = .slc 1 1 0 (pgG none (pl v.F v.G v.L)).length ∧ HOws (f155 v).get.2.1 [HO.row 195 2 v.Q (fun j => [.int .u64 (v.F j), .int .u64 (v.G j)]), rowI (pgG none (pl v.F v.G v.L))] := by
  obtain ⟨hQ, hL, hu⟩ := h
  obtain ⟨m1, m2, m3⟩ := l155_0 (p := P155_0.mk v.Q v.F v.G v.z v.L) (L := v.L) rfl hQ hL hu (s := S155_0.mk 0 0 0 (colI (fun (j:Nat) => []) 0)) rfl rfl rfl rfl
  have m2 : f155_4 v = f155_3 v := m2
  have m3 : ls (f155_5 v) (f155_3 v) = pgG none (pl v.F v.G v.L) := m3
  refine ⟨⟨m1, trivial⟩, ?_, .cons (.inl rfl) (.cons ?_ .nil)⟩
  · show SV.slc 1 1 0 (f155_3 v) = _
    rw [← m3, ls_len]
  · show HOw (.row 22 1 (f155_4 v) _) _
    rw [m2]
    exact rowI_of m3
set_option maxRecDepth 100000
noncomputable def f86n (v : V86) : Tr (Fin th.R) := .need (pre86 v) (.leaf (.tup [.int .u64 (cnd (errI v.z v.at_ != 0) 0 (rdL (pl v.F v.G v.L) v.at_)), .int .i64 (errI v.z v.at_)], [.row 195 2 v.Q (fun j => [.int .u64 (v.F j), .int .u64 (v.G j)])], []))
theorem s86n : Sound Try.prog th 86 (fnC d86 ofV86 f86n) := fnC_refine s86 fun v h => by
  obtain ⟨hp, _⟩ := h
  obtain ⟨a, b, c⟩ := n86 v hp
  exact ⟨a, b.symm, (qdd86 v).symm, c, by show 1 ≤ 1; decide⟩
noncomputable def nice86n : List (Nat × CF th.R) := (86, lift (fnC d86 ofV86 f86n)) :: nice151n
theorem nok86n : NiceOk Try.prog th nice86n := ⟨lift_sound s86n, nok151n⟩
set_option maxRecDepth 100000
noncomputable def f85n (v : V85) : Tr (Fin th.R) := .need (pre85 v) (.leaf (.tup [.agg [.int .u64 v.z, .slc 1 2 0 (wrR v.z (pl v.F v.G v.L) v.at_ v.w).length], .int .i64 (errI v.z v.at_)], [.gone, .row 195 2 (wrR v.z (pl v.F v.G v.L) v.at_ v.w).length (fun j => [.int .u64 (gP (wrR v.z (pl v.F v.G v.L) v.at_ v.w) j).1, .int .u64 (gP (wrR v.z (pl v.F v.G v.L) v.at_ v.w) j).2])], [0]))
theorem s85n : Sound Try.prog th 85 (fnC d85 ofV85 f85n) := fnC_refine s85 fun v h => by
  obtain ⟨hp, _⟩ := h
  obtain ⟨a, b, c⟩ := n85 v hp
  exact ⟨a, b.symm, (qdd85 v).symm, c, by show 1 ≤ 2; decide⟩
noncomputable def nice85n : List (Nat × CF th.R) := (85, lift (fnC d85 ofV85 f85n)) :: nice86n
theorem nok85n : NiceOk Try.prog th nice85n := ⟨lift_sound s85n, nok86n⟩
set_option maxRecDepth 100000
noncomputable def f87n (v : V87) : Tr (Fin th.R) := .need (pre87 v) (.leaf (.tup [.agg [.int .u64 v.z, .slc 1 2 0 (clR v.z (pl v.F v.G v.L) v.at_ v.n).length], .int .i64 (errC v.z v.at_ v.n)], [.gone, .row 195 2 (clR v.z (pl v.F v.G v.L) v.at_ v.n).length (fun j => [.int .u64 (gP (clR v.z (pl v.F v.G v.L) v.at_ v.n) j).1, .int .u64 (gP (clR v.z (pl v.F v.G v.L) v.at_ v.n) j).2])], [0]))
theorem s87n : Sound Try.prog th 87 (fnC d87 ofV87 f87n) := fnC_refine s87 fun v h => by
  obtain ⟨hp, _⟩ := h
  obtain ⟨a, b, c⟩ := n87 v hp
  exact ⟨a, b.symm, (qdd87 v).symm, c, by show 1 ≤ 2; decide⟩
noncomputable def nice87n : List (Nat × CF th.R) := (87, lift (fnC d87 ofV87 f87n)) :: nice85n
theorem nok87n : NiceOk Try.prog th nice87n := ⟨lift_sound s87n, nok85n⟩
set_option maxRecDepth 100000
noncomputable def f155n (v : V155) : Tr (Fin th.R) := .need (pre155 v) (.leaf (.slc 1 1 0 (pgG none (pl v.F v.G v.L)).length, [.row 195 2 v.Q (fun j => [.int .u64 (v.F j), .int .u64 (v.G j)]), .row 22 1 (pgG none (pl v.F v.G v.L)).length (fun j => [.int .u64 (gI (pgG none (pl v.F v.G v.L)) j)])], [0]))
theorem s155n : Sound Try.prog th 155 (fnC d155 ofV155 f155n) := fnC_refine s155 fun v h => by
  obtain ⟨hp, _⟩ := h
  obtain ⟨a, b, c⟩ := n155 v hp
  exact ⟨a, b.symm, (qdd155 v).symm, c, by show 1 ≤ 2; decide⟩
noncomputable def nice155n : List (Nat × CF th.R) := (155, lift (fnC d155 ofV155 f155n)) :: nice87n
theorem nok155n : NiceOk Try.prog th nice155n := ⟨lift_sound s155n, nok87n⟩
set_option maxRecDepth 100000
structure V89 where
  z : Int
  L : Nat
  M : th.R
  Q : Nat
  F : Nat → Int
  G : Nat → Int
def A89 (v : V89) : List SV := [.ptr 0 0, .agg [.int .u64 v.z, .slc 1 2 0 v.L]]
def H89 (v : V89) : List (HO th.R) := [.res v.M, .row 195 2 v.Q (fun j => [.int .u64 (v.F j), .int .u64 (v.G j)])]
def toV89 (v : V89) : List (Vl th.R) := [.i v.z, .n v.L, .r v.M, .n v.Q, .c v.F, .c v.G]
def ofV89 : List (Vl th.R) → Option V89
  | [.i z, .n L, .r M, .n Q, .c F, .c G] => some ⟨z, L, M, Q, F, G⟩
  | _ => none
def d89 : Ft := ⟨[.ptr 0 0, .agg [.int .u64, .slc0 1 2]], [.res, .rowc 195 [.int .u64, .int .u64]]⟩
structure P89_0 where
  b4 : Bool
  n6 : Nat
  n37 : Nat
  x38 : Int
  R0 : th.R
  N1 : Nat
  F1_0 : Nat → Int
  F1_1 : Nat → Int
  xh2_0 : Int
  nh2_1 : Nat
  N3 : Nat
  F3_0 : Nat → Int
  N4 : Nat
  F4_0 : Nat → Int
structure S89_0 where
  x39 : Int
noncomputable instance : Inhabited S89_0 := ⟨⟨0⟩⟩
def I89_0 (p : P89_0) (s : S89_0) : St th.R := ⟨[some (.ptr 0 0), none, none, some (.ptr 2 0), some (.bool p.b4), none, some (.slc 4 1 0 p.n6), none, none, none, none, none, none, none, none, none, none, none, none, none, none, none, none, none, none, none, none, none, none, none, none, none, none, none, none, none, none, some (.slc 3 1 0 p.n37), some (.int .i64 p.x38), some (.int .i64 s.x39), none, none, none, none, none, none, none, none, none, none, none, none, none, none, none, none, none, none, none, none, none, none, none, none, none, none, none, none, none, none, none, none, none, none], [.res p.R0, .row 195 2 p.N1 (fun j => [.int .u64 (p.F1_0 j), .int .u64 (p.F1_1 j)]), .cells 126 [.int .u64 p.xh2_0, .slc 1 2 0 p.nh2_1], .row 22 1 p.N3 (fun j => [.int .u64 (p.F3_0 j)]), .row 22 1 p.N4 (fun j => [.int .u64 (p.F4_0 j)])], [], []⟩
def d89_0 : Lp := ⟨⟨74, [(0, .ptr 0 0), (3, .ptr 2 0), (4, .bool), (6, .slc0 4 1), (37, .slc0 3 1), (38, .int .i64), (39, .int .i64)], [.res, .rowc 195 [.int .u64, .int .u64], .cells 126 [.int .u64, .slc0 1 2], .rowc 22 [.int .u64], .rowc 22 [.int .u64]]⟩, [], 5, [], [0, 3, 4, 68, 69, 70, 71], []⟩
def toV89_0 (p : P89_0) (s : S89_0) : List (Vl th.R) := [.b p.b4, .n p.n6, .n p.n37, .i p.x38, .i s.x39, .r p.R0, .n p.N1, .c p.F1_0, .c p.F1_1, .i p.xh2_0, .n p.nh2_1, .n p.N3, .c p.F3_0, .n p.N4, .c p.F4_0]
def ofV89_0 : List (Vl th.R) → Option (P89_0 × S89_0)
  | [.b b4, .n n6, .n n37, .i x38, .i x39, .r R0, .n N1, .c F1_0, .c F1_1, .i xh2_0, .n nh2_1, .n N3, .c F3_0, .n N4, .c F4_0] => some (⟨b4, n6, n37, x38, R0, N1, F1_0, F1_1, xh2_0, nh2_1, N3, F3_0, N4, F4_0⟩, ⟨x39⟩)
  | _ => none
noncomputable def e89_0_9 (p : P89_0) (s : S89_0) : (Nat) := (0:Nat) + s.x39.toNat
noncomputable def e89_0_0 (p : P89_0) (s : S89_0) : (Bool) := cnd (decide (s.x39 < p.x38)) false true
noncomputable def e89_0_1 (p : P89_0) (s : S89_0) : (Prop) := (∀ (i:Nat), scpL (0:Nat) ((fun (j:Nat) => [SV.int IntKind.u64 (p.F1_0 j), SV.int IntKind.u64 (p.F1_1 j)]) i) = true) ∧ (∀ (i:Nat), scpL (0:Nat) ((fun (j:Nat) => [SV.int IntKind.u64 (p.F3_0 j)]) i) = true) ∧ ∀ (i:Nat), scpL (0:Nat) ((fun (j:Nat) => [SV.int IntKind.u64 (p.F4_0 j)]) i) = true
noncomputable def e89_0_2 (p : P89_0) (s : S89_0) : (Prop) := (0:Int) ≤ s.x39 ∧ s.x39 < (↑p.n37:Int)
noncomputable def e89_0_3 (p : P89_0) (s : S89_0) : (Prop) := e89_0_9 p s < p.N3
noncomputable def e89_0_4 (p : P89_0) (s : S89_0) : (Prop) := (0:Int) ≤ s.x39 ∧ s.x39 < (↑p.n6:Int)
noncomputable def e89_0_5 (p : P89_0) (s : S89_0) : (Prop) := e89_0_9 p s < p.N4
noncomputable def e89_0_6 (p : P89_0) (s : S89_0) : (Bool) := p.F4_0 (e89_0_9 p s) != p.F3_0 (e89_0_9 p s)
noncomputable def e89_0_7 (p : P89_0) (s : S89_0) : (Prop) := ((∀ (i:Nat), scpL (0:Nat) ((fun (j:Nat) => [SV.int IntKind.u64 (p.F1_0 j), SV.int IntKind.u64 (p.F1_1 j)]) i) = true) ∧ (∀ (i:Nat), scpL (0:Nat) ((fun (j:Nat) => [SV.int IntKind.u64 (p.F3_0 j)]) i) = true) ∧ ∀ (i:Nat), scpL (0:Nat) ((fun (j:Nat) => [SV.int IntKind.u64 (p.F4_0 j)]) i) = true) ∧ (∀ (i:Nat), i < p.N1 → (fun (j:Nat) => [SV.int IntKind.u64 (p.F1_0 j), SV.int IntKind.u64 (p.F1_1 j)]) i = elC (fun (j:Nat) => [SV.int IntKind.u64 (p.F1_0 j), SV.int IntKind.u64 (p.F1_1 j)]) (0:Nat) [Ck.int IntKind.u64, Ck.int IntKind.u64] i) ∧ (∀ (i:Nat), i < p.N3 → (fun (j:Nat) => [SV.int IntKind.u64 (p.F3_0 j)]) i = elC (fun (j:Nat) => [SV.int IntKind.u64 (p.F3_0 j)]) (0:Nat) [Ck.int IntKind.u64] i) ∧ ∀ (i:Nat), i < p.N4 → (fun (j:Nat) => [SV.int IntKind.u64 (p.F4_0 j)]) i = elC (fun (j:Nat) => [SV.int IntKind.u64 (p.F4_0 j)]) (0:Nat) [Ck.int IntKind.u64] i
noncomputable def e89_0_8 (p : P89_0) (s : S89_0) : (Int) := IntKind.i64.wrap (s.x39 + (1:Int))
theorem n_e89_0_1 (p : P89_0) (s : S89_0) : e89_0_1 p s := by
  unfold e89_0_1
  (repeat' first | intro _ | apply And.intro) <;> first | rfl | exact absurd (by assumption) (Nat.not_lt_zero _) | exact scpL_rowSet (by rfl) (by rfl) | exact scpL_rowEl (by kernel_rfl) _ | omega | decide
theorem n_e89_0_7 (p : P89_0) (s : S89_0) : e89_0_7 p s := by
  unfold e89_0_7
  (repeat' first | intro _ | apply And.intro) <;> first | rfl | exact absurd (by assumption) (Nat.not_lt_zero _) | exact scpL_rowSet (by rfl) (by rfl) | exact scpL_rowEl (by kernel_rfl) _ | omega | decide
noncomputable def rf89_0 (p : P89_0) (s : S89_0) : Tr (Rs th.R S89_0) := (Tr.ite (e89_0_0 p s) (Tr.need (e89_0_1 p s) (Tr.leaf (Rs.out (Ex.exit (0:Nat)) [(some (SV.ptr (0:Nat) (0:Nat))), none, none, (some (SV.ptr (2:Nat) (0:Nat))), some (SV.bool (p.b4)), none, none, none, none, none, none, none, none, none, none, none, none, none, none, none, none, none, none, none, none, none, none, none, none, none, none, none, none, none, none, none, none, none, none, none, none, none, none, none, none, none, none, none, none, none, none, none, none, none, none, none, none, none, none, none, none, none, none, none, none, none, none, none, none, none, none, none, none, none] [HO.res (p.R0), (HO.row (195:Nat) (2:Nat) (p.N1) (fun j => [SV.int .u64 (p.F1_0 j), SV.int .u64 (p.F1_1 j)])), (HO.cells (126:Nat) [SV.int .u64 (p.xh2_0), (SV.slc (1:Nat) (2:Nat) (0:Nat) (p.nh2_1))]), (HO.row (22:Nat) (1:Nat) (p.N3) (fun j => [SV.int .u64 (p.F3_0 j)])), (HO.row (22:Nat) (1:Nat) (p.N4) (fun j => [SV.int .u64 (p.F4_0 j)]))]))) (Tr.need (e89_0_2 p s) (Tr.need (e89_0_3 p s) (Tr.need (e89_0_4 p s) (Tr.need (e89_0_5 p s) (Tr.ite (e89_0_6 p s) (Tr.need (e89_0_1 p s) (Tr.leaf (Rs.out (Ex.ret) [(some (SV.ptr (0:Nat) (0:Nat))), none, none, (some (SV.ptr (2:Nat) (0:Nat))), some (SV.bool (false)), none, none, none, none, none, none, none, none, none, none, none, none, none, none, none, none, none, none, none, none, none, none, none, none, none, none, none, none, none, none, none, none, none, none, none, none, none, none, none, none, none, none, none, none, none, none, none, none, none, none, none, none, none, none, none, none, none, none, none, none, none, none, none, none, none, none, none, none, none] [HO.res (p.R0), (HO.row (195:Nat) (2:Nat) (p.N1) (fun j => [SV.int .u64 (p.F1_0 j), SV.int .u64 (p.F1_1 j)])), (HO.cells (126:Nat) [SV.int .u64 (p.xh2_0), (SV.slc (1:Nat) (2:Nat) (0:Nat) (p.nh2_1))]), (HO.row (22:Nat) (1:Nat) (p.N3) (fun j => [SV.int .u64 (p.F3_0 j)])), (HO.row (22:Nat) (1:Nat) (p.N4) (fun j => [SV.int .u64 (p.F4_0 j)]))]))) (Tr.need (e89_0_7 p s) (Tr.leaf (Rs.on (S89_0.mk ((e89_0_8 p s))))))))))))
noncomputable def r89_0 (p : P89_0) (s : S89_0) : Tr (Rs th.R S89_0) := (Tr.ite (e89_0_0 p s) (Tr.leaf (Rs.out (Ex.exit (0:Nat)) [(some (SV.ptr (0:Nat) (0:Nat))), none, none, (some (SV.ptr (2:Nat) (0:Nat))), some (SV.bool (p.b4)), none, none, none, none, none, none, none, none, none, none, none, none, none, none, none, none, none, none, none, none, none, none, none, none, none, none, none, none, none, none, none, none, none, none, none, none, none, none, none, none, none, none, none, none, none, none, none, none, none, none, none, none, none, none, none, none, none, none, none, none, none, none, none, none, none, none, none, none, none] [HO.res (p.R0), (HO.row (195:Nat) (2:Nat) (p.N1) (fun j => [SV.int .u64 (p.F1_0 j), SV.int .u64 (p.F1_1 j)])), (HO.cells (126:Nat) [SV.int .u64 (p.xh2_0), (SV.slc (1:Nat) (2:Nat) (0:Nat) (p.nh2_1))]), (HO.row (22:Nat) (1:Nat) (p.N3) (fun j => [SV.int .u64 (p.F3_0 j)])), (HO.row (22:Nat) (1:Nat) (p.N4) (fun j => [SV.int .u64 (p.F4_0 j)]))])) (Tr.need (e89_0_2 p s) (Tr.need (e89_0_3 p s) (Tr.need (e89_0_4 p s) (Tr.need (e89_0_5 p s) (Tr.ite (e89_0_6 p s) (Tr.leaf (Rs.out (Ex.ret) [(some (SV.ptr (0:Nat) (0:Nat))), none, none, (some (SV.ptr (2:Nat) (0:Nat))), some (SV.bool (false)), none, none, none, none, none, none, none, none, none, none, none, none, none, none, none, none, none, none, none, none, none, none, none, none, none, none, none, none, none, none, none, none, none, none, none, none, none, none, none, none, none, none, none, none, none, none, none, none, none, none, none, none, none, none, none, none, none, none, none, none, none, none, none, none, none, none, none, none, none] [HO.res (p.R0), (HO.row (195:Nat) (2:Nat) (p.N1) (fun j => [SV.int .u64 (p.F1_0 j), SV.int .u64 (p.F1_1 j)])), (HO.cells (126:Nat) [SV.int .u64 (p.xh2_0), (SV.slc (1:Nat) (2:Nat) (0:Nat) (p.nh2_1))]), (HO.row (22:Nat) (1:Nat) (p.N3) (fun j => [SV.int .u64 (p.F3_0 j)])), (HO.row (22:Nat) (1:Nat) (p.N4) (fun j => [SV.int .u64 (p.F4_0 j)]))])) (Tr.leaf (Rs.on (S89_0.mk ((e89_0_8 p s)))))))))))
noncomputable def E89_0 : St th.R → Out th := evCode th Try.prog (auto th Try.prog nice155n [] 20) (autoH [] [] [] [] : Hints th) (lpAt Try.prog 89 0)
theorem B89_0 : CodeSound th Try.prog (lpAt Try.prog 89 0) E89_0 := evCode_sound (T := th) (P := Try.prog) (tbl := (auto th Try.prog nice155n [] 20)) (auto_sound (nice := nice155n) (us := []) nok155n 20) (autoH [] [] [] [] : Hints th) _ (LoopsOk_mem (fun _ => rfl) _ fun b hb L hL => by cases hL)
noncomputable def L89_0 : St th.R → Out th := loopL d89_0 ofV89_0 r89_0
theorem h1_89_0 (p : P89_0) (s : S89_0) : bld d89_0.tm (toV89_0 p s) = some (I89_0 p s) := by kernel_rfl
theorem h2_89_0 (l : List (Vl th.R)) (p : P89_0) (s : S89_0) (h : ofV89_0 l = some (p, s)) : l = toV89_0 p s := by
  unfold ofV89_0 at h
  split at h
  · cases h; rfl
  · cases h
theorem h3_89_0 (p : P89_0) (s : S89_0) : cvE d89_0 (E89_0 (I89_0 p s)) = some ((rf89_0 p s).map (Rs.map (toV89_0 p))) := by kernel_rfl
theorem h3g_89_0 (p : P89_0) (s : S89_0) : (rf89_0 p s).get = (r89_0 p s).get := by kernel_rfl
theorem h4_89_0 (p : P89_0) (s s1 : S89_0) : outH d89_0.dirt d89_0.n0 (r89_0 p s) = repH (maskH d89_0.dirt 0 d89_0.n0 (I89_0 p s1).heap) (r89_0 p s) := by kernel_rfl
theorem ls89_0 : CodeSound th Try.prog (.loop (lpAt Try.prog 89 0)) L89_0 := loopL_sound B89_0 d89_0 I89_0 toV89_0 (by kernel_rfl) h1_89_0 h2_89_0
  (fun p s => ⟨(rf89_0 p s).map (Rs.map (toV89_0 p)), h3_89_0 p s, fun h => by
    rw [Tr.map_ok]
    unfold r89_0 at h; unfold rf89_0
    simp only [Tr.ok, n_e89_0_1, n_e89_0_7, true_and, and_true, forall_const, implies_true] at h ⊢
    try exact h, by rw [Tr.map_get, h3g_89_0 p s]⟩) h4_89_0
structure P89_1 where
  b4 : Bool
  n52 : Nat
  x53 : Int
  R0 : th.R
  N1 : Nat
  F1_0 : Nat → Int
  F1_1 : Nat → Int
  xh2_0 : Int
  nh2_1 : Nat
  N3 : Nat
  F3_0 : Nat → Int
  N4 : Nat
  F4_0 : Nat → Int
structure S89_1 where
  x54 : Int
noncomputable instance : Inhabited S89_1 := ⟨⟨0⟩⟩
def I89_1 (p : P89_1) (s : S89_1) : St th.R := ⟨[some (.ptr 0 0), none, none, none, some (.bool p.b4), none, none, none, none, none, none, none, none, none, none, none, none, none, none, none, none, none, none, none, none, none, none, none, none, none, none, none, none, none, none, none, none, none, none, none, none, none, none, none, none, none, none, none, none, none, none, none, some (.slc 1 2 0 p.n52), some (.int .i64 p.x53), some (.int .i64 s.x54), none, none, none, none, none, none, none, none, none, none, none, none, none, none, none, none, none, none, none], [.res p.R0, .row 195 2 p.N1 (fun j => [.int .u64 (p.F1_0 j), .int .u64 (p.F1_1 j)]), .cells 126 [.int .u64 p.xh2_0, .slc 1 2 0 p.nh2_1], .row 22 1 p.N3 (fun j => [.int .u64 (p.F3_0 j)]), .row 22 1 p.N4 (fun j => [.int .u64 (p.F4_0 j)])], [], []⟩
def d89_1 : Lp := ⟨⟨74, [(0, .ptr 0 0), (4, .bool), (52, .slc0 1 2), (53, .int .i64), (54, .int .i64)], [.res, .rowc 195 [.int .u64, .int .u64], .cells 126 [.int .u64, .slc0 1 2], .rowc 22 [.int .u64], .rowc 22 [.int .u64]]⟩, [], 5, [], [4], []⟩
def toV89_1 (p : P89_1) (s : S89_1) : List (Vl th.R) := [.b p.b4, .n p.n52, .i p.x53, .i s.x54, .r p.R0, .n p.N1, .c p.F1_0, .c p.F1_1, .i p.xh2_0, .n p.nh2_1, .n p.N3, .c p.F3_0, .n p.N4, .c p.F4_0]
def ofV89_1 : List (Vl th.R) → Option (P89_1 × S89_1)
  | [.b b4, .n n52, .i x53, .i x54, .r R0, .n N1, .c F1_0, .c F1_1, .i xh2_0, .n nh2_1, .n N3, .c F3_0, .n N4, .c F4_0] => some (⟨b4, n52, x53, R0, N1, F1_0, F1_1, xh2_0, nh2_1, N3, F3_0, N4, F4_0⟩, ⟨x54⟩)
  | _ => none
noncomputable def e89_1_8 (p : P89_1) (s : S89_1) : (Nat) := (0:Nat) + s.x54.toNat
noncomputable def e89_1_9 (p : P89_1) (s : S89_1) : (Int) := p.F1_0 (e89_1_8 p s)
noncomputable def e89_1_0 (p : P89_1) (s : S89_1) : (Bool) := cnd (decide (s.x54 < p.x53)) false true
noncomputable def e89_1_1 (p : P89_1) (s : S89_1) : (Prop) := (∀ (i:Nat), scpL (0:Nat) ((fun (j:Nat) => [SV.int IntKind.u64 (p.F1_0 j), SV.int IntKind.u64 (p.F1_1 j)]) i) = true) ∧ (∀ (i:Nat), scpL (0:Nat) ((fun (j:Nat) => [SV.int IntKind.u64 (p.F3_0 j)]) i) = true) ∧ ∀ (i:Nat), scpL (0:Nat) ((fun (j:Nat) => [SV.int IntKind.u64 (p.F4_0 j)]) i) = true
noncomputable def e89_1_2 (p : P89_1) (s : S89_1) : (Prop) := (0:Int) ≤ s.x54 ∧ s.x54 < (↑p.n52:Int)
noncomputable def e89_1_3 (p : P89_1) (s : S89_1) : (Prop) := e89_1_8 p s < p.N1
noncomputable def e89_1_4 (p : P89_1) (s : S89_1) : (Prop) := (0:Int) ≤ e89_1_9 p s ∧ e89_1_9 p s < (18446744073709551616:Int)
noncomputable def e89_1_5 (p : P89_1) (s : S89_1) : (Bool) := cnd (errI (szM p.R0) (e89_1_9 p s) != (0:Int)) true (rdM p.R0 (e89_1_9 p s) != p.F1_1 (e89_1_8 p s))
noncomputable def e89_1_6 (p : P89_1) (s : S89_1) : (Prop) := ((∀ (i:Nat), scpL (0:Nat) ((fun (j:Nat) => [SV.int IntKind.u64 (p.F1_0 j), SV.int IntKind.u64 (p.F1_1 j)]) i) = true) ∧ (∀ (i:Nat), scpL (0:Nat) ((fun (j:Nat) => [SV.int IntKind.u64 (p.F3_0 j)]) i) = true) ∧ ∀ (i:Nat), scpL (0:Nat) ((fun (j:Nat) => [SV.int IntKind.u64 (p.F4_0 j)]) i) = true) ∧ (∀ (i:Nat), i < p.N1 → (fun (j:Nat) => [SV.int IntKind.u64 (p.F1_0 j), SV.int IntKind.u64 (p.F1_1 j)]) i = elC (fun (j:Nat) => [SV.int IntKind.u64 (p.F1_0 j), SV.int IntKind.u64 (p.F1_1 j)]) (0:Nat) [Ck.int IntKind.u64, Ck.int IntKind.u64] i) ∧ (∀ (i:Nat), i < p.N3 → (fun (j:Nat) => [SV.int IntKind.u64 (p.F3_0 j)]) i = elC (fun (j:Nat) => [SV.int IntKind.u64 (p.F3_0 j)]) (0:Nat) [Ck.int IntKind.u64] i) ∧ ∀ (i:Nat), i < p.N4 → (fun (j:Nat) => [SV.int IntKind.u64 (p.F4_0 j)]) i = elC (fun (j:Nat) => [SV.int IntKind.u64 (p.F4_0 j)]) (0:Nat) [Ck.int IntKind.u64] i
noncomputable def e89_1_7 (p : P89_1) (s : S89_1) : (Int) := IntKind.i64.wrap (s.x54 + (1:Int))
theorem n_e89_1_1 (p : P89_1) (s : S89_1) : e89_1_1 p s := by
  unfold e89_1_1
  (repeat' first | intro _ | apply And.intro) <;> first | rfl | exact absurd (by assumption) (Nat.not_lt_zero _) | exact scpL_rowSet (by rfl) (by rfl) | exact scpL_rowEl (by kernel_rfl) _ | omega | decide
theorem n_e89_1_6 (p : P89_1) (s : S89_1) : e89_1_6 p s := by
  unfold e89_1_6
  (repeat' first | intro _ | apply And.intro) <;> first | rfl | exact absurd (by assumption) (Nat.not_lt_zero _) | exact scpL_rowSet (by rfl) (by rfl) | exact scpL_rowEl (by kernel_rfl) _ | omega | decide
noncomputable def rf89_1 (p : P89_1) (s : S89_1) : Tr (Rs th.R S89_1) := (Tr.ite (e89_1_0 p s) (Tr.need (e89_1_1 p s) (Tr.leaf (Rs.out (Ex.exit (2:Nat)) [none, none, none, none, some (SV.bool (p.b4)), none, none, none, none, none, none, none, none, none, none, none, none, none, none, none, none, none, none, none, none, none, none, none, none, none, none, none, none, none, none, none, none, none, none, none, none, none, none, none, none, none, none, none, none, none, none, none, none, none, none, none, none, none, none, none, none, none, none, none, none, none, none, none, none, none, none, none, none, none] [HO.res (p.R0), (HO.row (195:Nat) (2:Nat) (p.N1) (fun j => [SV.int .u64 (p.F1_0 j), SV.int .u64 (p.F1_1 j)])), (HO.cells (126:Nat) [SV.int .u64 (p.xh2_0), (SV.slc (1:Nat) (2:Nat) (0:Nat) (p.nh2_1))]), (HO.row (22:Nat) (1:Nat) (p.N3) (fun j => [SV.int .u64 (p.F3_0 j)])), (HO.row (22:Nat) (1:Nat) (p.N4) (fun j => [SV.int .u64 (p.F4_0 j)]))]))) (Tr.need (e89_1_2 p s) (Tr.need (e89_1_3 p s) (Tr.need (e89_1_4 p s) (Tr.ite (e89_1_5 p s) (Tr.need (e89_1_1 p s) (Tr.leaf (Rs.out (Ex.ret) [none, none, none, none, some (SV.bool (false)), none, none, none, none, none, none, none, none, none, none, none, none, none, none, none, none, none, none, none, none, none, none, none, none, none, none, none, none, none, none, none, none, none, none, none, none, none, none, none, none, none, none, none, none, none, none, none, none, none, none, none, none, none, none, none, none, none, none, none, none, none, none, none, none, none, none, none, none, none] [HO.res (p.R0), (HO.row (195:Nat) (2:Nat) (p.N1) (fun j => [SV.int .u64 (p.F1_0 j), SV.int .u64 (p.F1_1 j)])), (HO.cells (126:Nat) [SV.int .u64 (p.xh2_0), (SV.slc (1:Nat) (2:Nat) (0:Nat) (p.nh2_1))]), (HO.row (22:Nat) (1:Nat) (p.N3) (fun j => [SV.int .u64 (p.F3_0 j)])), (HO.row (22:Nat) (1:Nat) (p.N4) (fun j => [SV.int .u64 (p.F4_0 j)]))]))) (Tr.need (e89_1_6 p s) (Tr.leaf (Rs.on (S89_1.mk ((e89_1_7 p s)))))))))))
noncomputable def r89_1 (p : P89_1) (s : S89_1) : Tr (Rs th.R S89_1) := (Tr.ite (e89_1_0 p s) (Tr.leaf (Rs.out (Ex.exit (2:Nat)) [none, none, none, none, some (SV.bool (p.b4)), none, none, none, none, none, none, none, none, none, none, none, none, none, none, none, none, none, none, none, none, none, none, none, none, none, none, none, none, none, none, none, none, none, none, none, none, none, none, none, none, none, none, none, none, none, none, none, none, none, none, none, none, none, none, none, none, none, none, none, none, none, none, none, none, none, none, none, none, none] [HO.res (p.R0), (HO.row (195:Nat) (2:Nat) (p.N1) (fun j => [SV.int .u64 (p.F1_0 j), SV.int .u64 (p.F1_1 j)])), (HO.cells (126:Nat) [SV.int .u64 (p.xh2_0), (SV.slc (1:Nat) (2:Nat) (0:Nat) (p.nh2_1))]), (HO.row (22:Nat) (1:Nat) (p.N3) (fun j => [SV.int .u64 (p.F3_0 j)])), (HO.row (22:Nat) (1:Nat) (p.N4) (fun j => [SV.int .u64 (p.F4_0 j)]))])) (Tr.need (e89_1_2 p s) (Tr.need (e89_1_3 p s) (Tr.need (e89_1_4 p s) (Tr.ite (e89_1_5 p s) (Tr.leaf (Rs.out (Ex.ret) [none, none, none, none, some (SV.bool (false)), none, none, none, none, none, none, none, none, none, none, none, none, none, none, none, none, none, none, none, none, none, none, none, none, none, none, none, none, none, none, none, none, none, none, none, none, none, none, none, none, none, none, none, none, none, none, none, none, none, none, none, none, none, none, none, none, none, none, none, none, none, none, none, none, none, none, none, none, none] [HO.res (p.R0), (HO.row (195:Nat) (2:Nat) (p.N1) (fun j => [SV.int .u64 (p.F1_0 j), SV.int .u64 (p.F1_1 j)])), (HO.cells (126:Nat) [SV.int .u64 (p.xh2_0), (SV.slc (1:Nat) (2:Nat) (0:Nat) (p.nh2_1))]), (HO.row (22:Nat) (1:Nat) (p.N3) (fun j => [SV.int .u64 (p.F3_0 j)])), (HO.row (22:Nat) (1:Nat) (p.N4) (fun j => [SV.int .u64 (p.F4_0 j)]))])) (Tr.leaf (Rs.on (S89_1.mk ((e89_1_7 p s))))))))))
noncomputable def E89_1 : St th.R → Out th := evCode th Try.prog (auto th Try.prog nice155n [] 20) (autoH [] [] [] [] : Hints th) (lpAt Try.prog 89 1)
theorem B89_1 : CodeSound th Try.prog (lpAt Try.prog 89 1) E89_1 := evCode_sound (T := th) (P := Try.prog) (tbl := (auto th Try.prog nice155n [] 20)) (auto_sound (nice := nice155n) (us := []) nok155n 20) (autoH [] [] [] [] : Hints th) _ (LoopsOk_mem (fun _ => rfl) _ fun b hb L hL => by cases hL)
noncomputable def L89_1 : St th.R → Out th := loopL d89_1 ofV89_1 r89_1
theorem h1_89_1 (p : P89_1) (s : S89_1) : bld d89_1.tm (toV89_1 p s) = some (I89_1 p s) := by kernel_rfl
theorem h2_89_1 (l : List (Vl th.R)) (p : P89_1) (s : S89_1) (h : ofV89_1 l = some (p, s)) : l = toV89_1 p s := by
  unfold ofV89_1 at h
  split at h
  · cases h; rfl
  · cases h
theorem h3_89_1 (p : P89_1) (s : S89_1) : cvE d89_1 (E89_1 (I89_1 p s)) = some ((rf89_1 p s).map (Rs.map (toV89_1 p))) := by kernel_rfl
theorem h3g_89_1 (p : P89_1) (s : S89_1) : (rf89_1 p s).get = (r89_1 p s).get := by kernel_rfl
theorem h4_89_1 (p : P89_1) (s s1 : S89_1) : outH d89_1.dirt d89_1.n0 (r89_1 p s) = repH (maskH d89_1.dirt 0 d89_1.n0 (I89_1 p s1).heap) (r89_1 p s) := by kernel_rfl
theorem ls89_1 : CodeSound th Try.prog (.loop (lpAt Try.prog 89 1)) L89_1 := loopL_sound B89_1 d89_1 I89_1 toV89_1 (by kernel_rfl) h1_89_1 h2_89_1
  (fun p s => ⟨(rf89_1 p s).map (Rs.map (toV89_1 p)), h3_89_1 p s, fun h => by
    rw [Tr.map_ok]
    unfold r89_1 at h; unfold rf89_1
    simp only [Tr.ok, n_e89_1_1, n_e89_1_6, true_and, and_true, forall_const, implies_true] at h ⊢
    try exact h, by rw [Tr.map_get, h3g_89_1 p s]⟩) h4_89_1
theorem ok89 : LoopsOk th Try.prog (autoH [(6, L89_0), (12, L89_1)] [] [] [] : Hints th) (bodyOf Try.prog 89) := autoH_ok (bs := [lpAt Try.prog 89 0, lpAt Try.prog 89 1]) (by kernel_rfl) fun b hb L hL => by
  simp only [List.mem_cons, List.not_mem_nil, or_false] at hb
  rcases hb with rfl | rfl
  · have e : lookL [(6, L89_0), (12, L89_1)] (firstReg (lpAt Try.prog 89 0)) = some L89_0 := by kernel_rfl
    rw [e] at hL; cases hL
    exact ls89_0
  · have e : lookL [(6, L89_0), (12, L89_1)] (firstReg (lpAt Try.prog 89 1)) = some L89_1 := by kernel_rfl
    rw [e] at hL; cases hL
    exact ls89_1
noncomputable def f89_14 (v : V89) : (Int) := (↑(pgG none (pl v.F v.G v.L)).length:Int)
noncomputable def f89_15 (v : V89) : (Bool) := cnd (cnd (szM v.M != v.z) true ((↑(wcn v.M):Int) != (↑v.L:Int))) true ((↑(pgL v.M):Int) != f89_14 v)
noncomputable def f89_16 (v : V89) : (P89_0) := P89_0.mk false (pgL v.M) (pgG none (pl v.F v.G v.L)).length (f89_14 v) v.M v.Q v.F v.G v.z v.L (pgG none (pl v.F v.G v.L)).length (gI (pgG none (pl v.F v.G v.L))) (pgL v.M) (pgA v.M)
noncomputable def f89z0 (v : V89) : S89_0 := lastS (r89_0 (f89_16 v)) (S89_0.mk (0:Int))
noncomputable def f89_17 (v : V89) : (Bool) := cnd (e89_0_0 (f89_16 v) (f89z0 v)) false true
noncomputable def f89_18 (v : V89) : (P89_1) := P89_1.mk false v.L (↑v.L:Int) v.M v.Q v.F v.G v.z v.L (pgG none (pl v.F v.G v.L)).length (gI (pgG none (pl v.F v.G v.L))) (pgL v.M) (pgA v.M)
noncomputable def f89z1 (v : V89) : S89_1 := lastS (r89_1 (f89_18 v)) (S89_1.mk (0:Int))
noncomputable def f89_19 (v : V89) : (Bool) := cnd (e89_1_0 (f89_18 v) (f89z1 v)) false true
noncomputable def f89_0 (v : V89) : (Prop) := ∀ (i:Nat), scpL (0:Nat) ((fun (j:Nat) => [SV.int IntKind.u64 (v.F j), SV.int IntKind.u64 (v.G j)]) i) = true
noncomputable def f89_1 (v : V89) : (Prop) := ∀ (i:Nat), i < v.Q → (fun (j:Nat) => [SV.int IntKind.u64 (v.F j), SV.int IntKind.u64 (v.G j)]) i = elC (fun (j:Nat) => [SV.int IntKind.u64 (v.F j), SV.int IntKind.u64 (v.G j)]) (0:Nat) [Ck.int IntKind.u64, Ck.int IntKind.u64] i
noncomputable def f89_2 (v : V89) : (Prop) := pre155 (V155.mk v.z v.L v.Q v.F v.G)
noncomputable def f89_3 (v : V89) : (Prop) := (∀ (i:Nat), scpL (0:Nat) ((fun (j:Nat) => [SV.int IntKind.u64 (v.F j), SV.int IntKind.u64 (v.G j)]) i) = true) ∧ ∀ (i:Nat), scpL (0:Nat) ((fun (j:Nat) => [SV.int IntKind.u64 (gI (pgG none (pl v.F v.G v.L)) j)]) i) = true
noncomputable def f89_4 (v : V89) : (Prop) := ∀ (i:Nat), scpL (0:Nat) ((fun (j:Nat) => [SV.int IntKind.u64 (pgA v.M j)]) i) = true
noncomputable def f89_5 (v : V89) : (Prop) := f89_15 v = false → (∀ (i:Nat), i < v.Q → (fun (j:Nat) => [SV.int IntKind.u64 (v.F j), SV.int IntKind.u64 (v.G j)]) i = elC (fun (j:Nat) => [SV.int IntKind.u64 (v.F j), SV.int IntKind.u64 (v.G j)]) (0:Nat) [Ck.int IntKind.u64, Ck.int IntKind.u64] i) ∧ (∀ (i:Nat), i < (pgG none (pl v.F v.G v.L)).length → (fun (j:Nat) => [SV.int IntKind.u64 (gI (pgG none (pl v.F v.G v.L)) j)]) i = elC (fun (j:Nat) => [SV.int IntKind.u64 (gI (pgG none (pl v.F v.G v.L)) j)]) (0:Nat) [Ck.int IntKind.u64] i) ∧ ∀ (i:Nat), i < pgL v.M → (fun (j:Nat) => [SV.int IntKind.u64 (pgA v.M j)]) i = elC (fun (j:Nat) => [SV.int IntKind.u64 (pgA v.M j)]) (0:Nat) [Ck.int IntKind.u64] i
noncomputable def f89_6 (v : V89) : (Prop) := f89_15 v = false → LT (r89_0 (f89_16 v)) (S89_0.mk (0:Int))
noncomputable def f89_7 (v : V89) : (Prop) := f89_15 v = false → f89_17 v = false → (∀ (i:Nat), i < v.Q → (fun (j:Nat) => [SV.int IntKind.u64 (v.F j), SV.int IntKind.u64 (v.G j)]) i = elC (fun (j:Nat) => [SV.int IntKind.u64 (v.F j), SV.int IntKind.u64 (v.G j)]) (0:Nat) [Ck.int IntKind.u64, Ck.int IntKind.u64] i) ∧ (∀ (i:Nat), i < (pgG none (pl v.F v.G v.L)).length → (fun (j:Nat) => [SV.int IntKind.u64 (gI (pgG none (pl v.F v.G v.L)) j)]) i = elC (fun (j:Nat) => [SV.int IntKind.u64 (gI (pgG none (pl v.F v.G v.L)) j)]) (0:Nat) [Ck.int IntKind.u64] i) ∧ ∀ (i:Nat), i < pgL v.M → (fun (j:Nat) => [SV.int IntKind.u64 (pgA v.M j)]) i = elC (fun (j:Nat) => [SV.int IntKind.u64 (pgA v.M j)]) (0:Nat) [Ck.int IntKind.u64] i
noncomputable def f89_8 (v : V89) : (Prop) := f89_15 v = false → f89_17 v = false → LT (r89_1 (f89_18 v)) (S89_1.mk (0:Int))
noncomputable def f89_9 (v : V89) : (Prop) := (∀ (i:Nat), scpL (2:Nat) ((fun (i:Nat) => rowSet (f89_15 v) ((fun (j:Nat) => [SV.int IntKind.u64 (v.F j), SV.int IntKind.u64 (v.G j)]) i) ((fun (i:Nat) => rowSet (f89_17 v) ((fun (j:Nat) => [SV.int IntKind.u64 (v.F j), SV.int IntKind.u64 (v.G j)]) i) ((fun (i:Nat) => rowSet (f89_19 v) ((fun (j:Nat) => [SV.int IntKind.u64 (v.F j), SV.int IntKind.u64 (v.G j)]) i) ((fun (j:Nat) => [SV.int IntKind.u64 (v.F j), SV.int IntKind.u64 (v.G j)]) i)) i)) i)) i) = true) ∧ (∀ (i:Nat), scpL (2:Nat) ((fun (i:Nat) => rowSet (f89_15 v) ((fun (j:Nat) => [SV.int IntKind.u64 (v.F j), SV.int IntKind.u64 (v.G j)]) i) ((fun (i:Nat) => rowSet (f89_17 v) ((fun (j:Nat) => [SV.int IntKind.u64 (v.F j), SV.int IntKind.u64 (v.G j)]) i) ((fun (i:Nat) => rowSet (f89_19 v) ((fun (j:Nat) => [SV.int IntKind.u64 (v.F j), SV.int IntKind.u64 (v.G j)]) i) ((fun (j:Nat) => [SV.int IntKind.u64 (v.F j), SV.int IntKind.u64 (v.G j)]) i)) i)) i)) i) = true) ∧ (∀ (i:Nat), scpL (2:Nat) ((fun (i:Nat) => rowSet (f89_15 v) ((fun (j:Nat) => [SV.int IntKind.u64 (v.F j), SV.int IntKind.u64 (v.G j)]) i) ((fun (i:Nat) => rowSet (f89_17 v) ((fun (j:Nat) => [SV.int IntKind.u64 (v.F j), SV.int IntKind.u64 (v.G j)]) i) ((fun (i:Nat) => rowSet (f89_19 v) ((fun (j:Nat) => [SV.int IntKind.u64 (v.F j), SV.int IntKind.u64 (v.G j)]) i) ((fun (j:Nat) => [SV.int IntKind.u64 (v.F j), SV.int IntKind.u64 (v.G j)]) i)) i)) i)) i) = true) ∧ ∀ (i:Nat), scpL (2:Nat) ((fun (i:Nat) => rowSet (f89_15 v) ((fun (j:Nat) => [SV.int IntKind.u64 (v.F j), SV.int IntKind.u64 (v.G j)]) i) ((fun (i:Nat) => rowSet (f89_17 v) ((fun (j:Nat) => [SV.int IntKind.u64 (v.F j), SV.int IntKind.u64 (v.G j)]) i) ((fun (i:Nat) => rowSet (f89_19 v) ((fun (j:Nat) => [SV.int IntKind.u64 (v.F j), SV.int IntKind.u64 (v.G j)]) i) ((fun (j:Nat) => [SV.int IntKind.u64 (v.F j), SV.int IntKind.u64 (v.G j)]) i)) i)) i)) i) = true
noncomputable def f89_10 (v : V89) : (Bool) := cnd (f89_15 v) false (cnd (f89_17 v) false (cnd (f89_19 v) false true))
noncomputable def f89_11 (v : V89) : (Nat) := cnd (f89_15 v) v.Q (cnd (f89_17 v) v.Q (cnd (f89_19 v) v.Q v.Q))
noncomputable def f89_12 (v : V89) : Nat → (Int) := fun (i:Nat) => cnd (f89_15 v) (v.F i) (cnd (f89_17 v) (v.F i) (cnd (f89_19 v) (v.F i) (v.F i)))
noncomputable def f89_13 (v : V89) : Nat → (Int) := fun (i:Nat) => cnd (f89_15 v) (v.G i) (cnd (f89_17 v) (v.G i) (cnd (f89_19 v) (v.G i) (v.G i)))
theorem n_f89_0 (v : V89) : f89_0 v := by
  unfold f89_0
  (repeat' first | intro _ | apply And.intro) <;> first | rfl | exact absurd (by assumption) (Nat.not_lt_zero _) | exact scpL_rowSet (by rfl) (by rfl) | exact scpL_rowEl (by kernel_rfl) _ | omega | decide
theorem n_f89_1 (v : V89) : f89_1 v := by
  unfold f89_1
  (repeat' first | intro _ | apply And.intro) <;> first | rfl | exact absurd (by assumption) (Nat.not_lt_zero _) | exact scpL_rowSet (by rfl) (by rfl) | exact scpL_rowEl (by kernel_rfl) _ | omega | decide
theorem n_f89_3 (v : V89) : f89_3 v := by
  unfold f89_3
  (repeat' first | intro _ | apply And.intro) <;> first | rfl | exact absurd (by assumption) (Nat.not_lt_zero _) | exact scpL_rowSet (by rfl) (by rfl) | exact scpL_rowEl (by kernel_rfl) _ | omega | decide
theorem n_f89_4 (v : V89) : f89_4 v := by
  unfold f89_4
  (repeat' first | intro _ | apply And.intro) <;> first | rfl | exact absurd (by assumption) (Nat.not_lt_zero _) | exact scpL_rowSet (by rfl) (by rfl) | exact scpL_rowEl (by kernel_rfl) _ | omega | decide
theorem n_f89_5 (v : V89) : f89_5 v := by
  unfold f89_5
  (repeat' first | intro _ | apply And.intro) <;> first | rfl | exact absurd (by assumption) (Nat.not_lt_zero _) | exact scpL_rowSet (by rfl) (by rfl) | exact scpL_rowEl (by kernel_rfl) _ | omega | decide
theorem n_f89_7 (v : V89) : f89_7 v := by
  unfold f89_7
  (repeat' first | intro _ | apply And.intro) <;> first | rfl | exact absurd (by assumption) (Nat.not_lt_zero _) | exact scpL_rowSet (by rfl) (by rfl) | exact scpL_rowEl (by kernel_rfl) _ | omega | decide
theorem n_f89_9 (v : V89) : f89_9 v := by
  unfold f89_9
  (repeat' first | intro _ | apply And.intro) <;> first | rfl | exact absurd (by assumption) (Nat.not_lt_zero _) | exact scpL_rowSet (by rfl) (by rfl) | exact scpL_rowEl (by kernel_rfl) _ | omega | decide
noncomputable def ff89 (v : V89) : Tr (Fin th.R) := (Tr.need (f89_0 v) (Tr.need (f89_1 v) (Tr.need (f89_2 v) (Tr.need (f89_3 v) (Tr.need (f89_4 v) (Tr.need (f89_5 v) (Tr.need (f89_6 v) (Tr.need (f89_7 v) (Tr.need (f89_8 v) (Tr.need (f89_9 v) (Tr.leaf (SV.bool (f89_10 v), [HO.res (v.M), (HO.row (195:Nat) (2:Nat) (f89_11 v) (fun i => [SV.int .u64 (f89_12 v i), SV.int .u64 (f89_13 v i)]))], [(1:Nat), (1:Nat), (1:Nat), (1:Nat)]))))))))))))
noncomputable def f89 (v : V89) : Tr (Fin th.R) := (Tr.need (f89_2 v) (Tr.need (f89_6 v) (Tr.need (f89_8 v) (Tr.leaf (SV.bool (f89_10 v), [HO.res (v.M), (HO.row (195:Nat) (2:Nat) (f89_11 v) (fun i => [SV.int .u64 (f89_12 v i), SV.int .u64 (f89_13 v i)]))], [1])))))
noncomputable def C89 : CF th.R := fnC d89 ofV89 (f89 )
theorem q89 (v : V89) : (evFn th Try.prog (auto th Try.prog nice155n [] 20) (autoH [(6, L89_0), (12, L89_1)] [] [] [] : Hints th) 89) (A89 v) (H89 v) = some (ff89 v) := by kernel_rfl
theorem qg89 (v : V89) : ((ff89 v).map (setD [1])).get = (f89 v).get := by kernel_rfl
theorem qd89 (v : V89) : allD 2 [1] (ff89 v) = true := by kernel_rfl
theorem s89 : Sound Try.prog th 89 (C89 ) := fnC_sound (evFn_sound' (T := th) (P := Try.prog) (tbl := (auto th Try.prog nice155n [] 20)) (auto_sound (nice := nice155n) (us := []) nok155n 20) (H := (autoH [(6, L89_0), (12, L89_1)] [] [] [] : Hints th)) (k := 89) (fnLoops ok89)) d89 A89 H89 toV89 (by kernel_rfl) (fun v => by kernel_rfl)
  (fun l v h => by
    unfold ofV89 at h
    split at h
    · cases h; rfl
    · cases h)
  [1] (fun v => ⟨ff89 v, q89 v, fun h => by
    unfold f89 at h; unfold ff89
    simp only [Tr.ok, n_f89_0, n_f89_1, n_f89_3, n_f89_4, n_f89_5, n_f89_7, n_f89_9, true_and, and_true, forall_const, implies_true] at h ⊢
    try exact h, qg89 v, qd89 v⟩)
theorem qdd89 (v : V89) : (f89 v).get.2.2 = [1] := by
  rw [← qg89, Tr.map_get]; rfl
set_option maxRecDepth 100000
theorem l89_0 {p : P89_0} {l : List Int} (h37 : p.n37 = l.length) (h38 : p.x38 = l.length) (h6 : p.n6 = l.length) (hN3 : p.N3 = l.length) (hN4 : p.N4 = l.length) (hF3 : p.F3_0 = gI l) (hF4 : p.F4_0 = gI l) (hl : l.length ≤ 1048576) {s : S89_0} (hs : s.x39 = 0) :
    LT (r89_0 p) s ∧ e89_0_0 p (lastS (r89_0 p) s) = true := by
  refine LT.post (fun t : S89_0 => ∃ i : Nat, t.x39 = i ∧ i ≤ l.length) (fun t : S89_0 => e89_0_0 p t = true) (fun t : S89_0 => l.length - t.x39.toNat) ?_ ⟨0, hs, Nat.zero_le _⟩
  rintro ⟨x39⟩ ⟨i, g1, g2⟩
  simp only at g1
  subst g1
  by_cases hi : i < l.length
  · have hd : e89_0_0 p ⟨i⟩ = false := by
      show cnd (decide ((i:Int) < p.x38)) false true = false
      rw [decide_eq_true (by omega)]; rfl
    have e9 : e89_0_9 p ⟨i⟩ = i := by show 0 + (i:Int).toNat = i; omega
    have e6 : e89_0_6 p ⟨i⟩ = false := by unfold e89_0_6; rw [hF3, hF4]; exact bne_self_eq_false _
    have w8 : IntKind.i64.wrap ((i:Int) + 1) = ((i + 1:Nat):Int) := by rw [wrap_i64 (by omega) (by omega)]; omega
    simp only [r89_0, hd, e6, Tr.ok, Tr.get]
    refine ⟨⟨(fun e => by cases e), fun _ => ⟨⟨by show (0:Int) ≤ i; omega, by show (i:Int) < p.n37; omega⟩, by unfold e89_0_3; rw [e9, hN3]; exact hi, ⟨by show (0:Int) ≤ i; omega, by show (i:Int) < p.n6; omega⟩, by unfold e89_0_5; rw [e9, hN4]; exact hi, (fun e => by cases e), fun _ => trivial⟩⟩, .inr ⟨_, rfl, ⟨i + 1, w8, hi⟩, ?_⟩⟩
    show l.length - (IntKind.i64.wrap ((i:Int) + 1)).toNat < l.length - (i:Int).toNat
    rw [w8]; omega
  · have hd : e89_0_0 p ⟨i⟩ = true := by
      show cnd (decide ((i:Int) < p.x38)) false true = true
      rw [decide_eq_false (by omega)]; rfl
    refine ⟨?_, .inl ⟨?_, hd⟩⟩
    · simp only [r89_0, hd, Tr.ok]
      exact ⟨fun _ => trivial, (fun e => by cases e)⟩
    · simp only [r89_0, hd, Tr.get]
      exact ⟨_, _, _, rfl⟩
theorem l89_1 {p : P89_1} {M : Mem} {L : Nat} (hM : MemOk M) (h52 : p.n52 = L) (h53 : p.x53 = L) (hR : p.R0 = M) (hN : p.N1 = L) (hL : L ≤ 100000) (hp : pl p.F1_0 p.F1_1 L = wsM M) {s : S89_1} (hs : s.x54 = 0) :
    LT (r89_1 p) s ∧ e89_1_0 p (lastS (r89_1 p) s) = true := by
  refine LT.post (fun t : S89_1 => ∃ i : Nat, t.x54 = i ∧ i ≤ L) (fun t : S89_1 => e89_1_0 p t = true) (fun t : S89_1 => L - t.x54.toNat) ?_ ⟨0, hs, Nat.zero_le _⟩
  rintro ⟨x54⟩ ⟨i, g1, g2⟩
  simp only at g1
  subst g1
  by_cases hi : i < L
  · have hd : e89_1_0 p ⟨i⟩ = false := by
      show cnd (decide ((i:Int) < p.x53)) false true = false
      rw [decide_eq_true (by omega)]; rfl
    have e8 : e89_1_8 p ⟨i⟩ = i := by show 0 + (i:Int).toNat = i; omega
    have e9 : e89_1_9 p ⟨i⟩ = p.F1_0 i := by unfold e89_1_9; rw [e8]
    have hm : (p.F1_0 i, p.F1_1 i) ∈ wsM M := by
      rw [← hp]
      exact List.mem_of_getElem? (pl_get hi)
    obtain ⟨m1, m2⟩ := (wsM_mem hM).1 hm
    have m1 : M.W (p.F1_0 i) = p.F1_1 i := m1
    have m2 : p.F1_1 i ≠ 0 := m2
    obtain ⟨d0, d1, d8⟩ := hM.dom (p.F1_0 i) (by rw [m1]; exact m2)
    have hhi := hM.hi
    have e5 : e89_1_5 p ⟨i⟩ = false := by
      unfold e89_1_5
      rw [e9, e8, hR]
      rw [show errI (szM M) (p.F1_0 i) = 0 from errI_ok d8 d1, show rdM M (p.F1_0 i) = p.F1_1 i from m1]
      show (p.F1_1 i != p.F1_1 i) = false
      exact bne_self_eq_false _
    have w7 : IntKind.i64.wrap ((i:Int) + 1) = ((i + 1:Nat):Int) := by rw [wrap_i64 (by omega) (by omega)]; omega
    simp only [r89_1, hd, e5, Tr.ok, Tr.get]
    refine ⟨⟨(fun e => by cases e), fun _ => ⟨⟨by show (0:Int) ≤ i; omega, by show (i:Int) < p.n52; omega⟩, by unfold e89_1_3; rw [e8, hN]; exact hi, by unfold e89_1_4; rw [e9]; exact ⟨d0, by omega⟩, (fun e => by cases e), fun _ => trivial⟩⟩, .inr ⟨_, rfl, ⟨i + 1, w7, hi⟩, ?_⟩⟩
    show L - (IntKind.i64.wrap ((i:Int) + 1)).toNat < L - (i:Int).toNat
    rw [w7]; omega
  · have hd : e89_1_0 p ⟨i⟩ = true := by
      show cnd (decide ((i:Int) < p.x53)) false true = true
      rw [decide_eq_false (by omega)]; rfl
    refine ⟨?_, .inl ⟨?_, hd⟩⟩
    · simp only [r89_1, hd, Tr.ok]
      exact ⟨fun _ => trivial, (fun e => by cases e)⟩
    · simp only [r89_1, hd, Tr.get]
      exact ⟨_, _, _, rfl⟩
def pre89 (v : V89) : Prop := v.Q = v.L ∧ v.L ≤ 100000 ∧ MemOk v.M ∧ szM v.M = v.z ∧ pl v.F v.G v.L = wsM v.M
theorem n89 (v : V89) (h : pre89 v) : (f89 v).ok ∧ (f89 v).get.1 = .bool true ∧ HOws (f89 v).get.2.1 [HO.res v.M, HO.row 195 2 v.Q (fun j => [.int .u64 (v.F j), .int .u64 (v.G j)])] := by
  obtain ⟨hQ, hL, hM, hz, hp⟩ := h
  have hpg : pgG none (pl v.F v.G v.L) = pgs v.M := by rw [hp]; exact pgG_ws hM
  have hlen : (pgs v.M).length ≤ 1048576 := pgs_len v.M hM
  have hu : ∀ j, j < v.L → U64 (v.F j) := fun j hj => by
    have hm : (v.F j, v.G j) ∈ wsM v.M := by rw [← hp]; exact List.mem_of_getElem? (pl_get hj)
    obtain ⟨m1, m2⟩ := (wsM_mem hM).1 hm
    have m1 : Mem.W v.M (v.F j) = v.G j := m1
    have m2 : v.G j ≠ 0 := m2
    obtain ⟨d0, d1, d8⟩ := hM.dom (v.F j) (by rw [m1]; exact m2)
    have hhi := hM.hi
    exact ⟨d0, by omega⟩
  have hw : wcn v.M = v.L := by rw [wcn_ws hM, ← hp, pl_len]
  have h15 : f89_15 v = false := by
    unfold f89_15 f89_14
    rw [hz, hw, hpg, show (v.z != v.z) = false from bne_self_eq_false _, show ((v.L:Int) != (v.L:Int)) = false from bne_self_eq_false _]
    exact bne_self_eq_false _
  obtain ⟨a1, a2⟩ := l89_0 (p := f89_16 v) (l := pgs v.M) (by show (pgG none (pl v.F v.G v.L)).length = _; rw [hpg]) (by show ((pgG none (pl v.F v.G v.L)).length:Int) = _; rw [hpg]) rfl (by show (pgG none (pl v.F v.G v.L)).length = _; rw [hpg]) rfl (by show gI (pgG none (pl v.F v.G v.L)) = _; rw [hpg]) rfl hlen (s := S89_0.mk 0) rfl
  obtain ⟨b1, b2⟩ := l89_1 (p := f89_18 v) (M := v.M) (L := v.L) hM rfl rfl rfl hQ hL hp (s := S89_1.mk 0) rfl
  have h17 : f89_17 v = false := by
    show cnd (e89_0_0 (f89_16 v) (lastS (r89_0 (f89_16 v)) (S89_0.mk 0))) false true = false
    rw [a2]; rfl
  have h19 : f89_19 v = false := by
    show cnd (e89_1_0 (f89_18 v) (lastS (r89_1 (f89_18 v)) (S89_1.mk 0))) false true = false
    rw [b2]; rfl
  refine ⟨⟨⟨hQ, hL, hu⟩, fun _ => a1, fun _ _ => b1, trivial⟩, ?_, ?_⟩
  · show SV.bool (f89_10 v) = _
    unfold f89_10
    rw [h15, h17, h19]; rfl
  · refine .cons (.inl rfl) (.cons ?_ .nil)
    show HOw (.row 195 2 (f89_11 v) (fun i => [.int .u64 (f89_12 v i), .int .u64 (f89_13 v i)])) _
    have e11 : f89_11 v = v.Q := by unfold f89_11; rw [h15, h17, h19]; rfl
    have e12 : ∀ i, f89_12 v i = v.F i := fun i => by unfold f89_12; rw [h15, h17, h19]; rfl
    have e13 : ∀ i, f89_13 v i = v.G i := fun i => by unfold f89_13; rw [h15, h17, h19]; rfl
    rw [e11]
    exact .row fun i _ => by rw [e12, e13]
set_option maxRecDepth 100000
noncomputable def f89n (v : V89) : Tr (Fin th.R) := .need (pre89 v) (.leaf (.bool true, [.res v.M, .row 195 2 v.Q (fun j => [.int .u64 (v.F j), .int .u64 (v.G j)])], [1]))
theorem s89n : Sound Try.prog th 89 (fnC d89 ofV89 f89n) := fnC_refine s89 fun v h => by
  obtain ⟨hp, _⟩ := h
  obtain ⟨a, b, c⟩ := n89 v hp
  exact ⟨a, b.symm, (qdd89 v).symm, c, by show 2 ≤ 2; decide⟩
noncomputable def nice89n : List (Nat × CF th.R) := (89, lift (fnC d89 ofV89 f89n)) :: nice155n
theorem nok89n : NiceOk Try.prog th nice89n := ⟨lift_sound s89n, nok155n⟩
def szB (a:Int) : Bool := cnd (cnd (decide (65536 ≤ a)) (decide (a ≤ 4294967296)) false) (decide (a % 4096 = 0)) false
theorem szB_t {a : Int} (h : sizeOk a) : szB a = true := by
  unfold szB
  rw [decide_eq_true h.1, decide_eq_true h.2.1, decide_eq_true h.2.2]; rfl
theorem szB_f {a : Int} (h : ¬ sizeOk a) : szB a = false := by
  unfold szB
  by_cases h1 : 65536 ≤ a
  · by_cases h2 : a ≤ 4294967296
    · by_cases h3 : a % 4096 = 0
      · exact absurd ⟨h1, h2, h3⟩ h
      · rw [decide_eq_true h1, decide_eq_true h2, decide_eq_false h3]; rfl
    · rw [decide_eq_true h1, decide_eq_false h2]; rfl
  · rw [decide_eq_false h1]; rfl
noncomputable def f71b (v : V71) : Tr (Fin th.R) := .need (0 ≤ v.a ∧ v.a < 18446744073709551616) (.ite (szB v.a) (.leaf (.tup [.ptr 0 0, .int .i64 0], [.res (newM v.a)], [])) (.leaf (.tup [.nilp, .int .i64 11], [], [])))
theorem s71b : Sound Try.prog th 71 (fnC d71 ofV71 f71b) := fnC_refine s71 fun v h => by
  obtain ⟨h1, h2⟩ := h
  by_cases hs : sizeOk v.a
  · have e1 : decide (sizeOk v.a) = true := decide_eq_true hs
    have e2 := szB_t hs
    refine ⟨⟨h1, ⟨fun _ => trivial, fun _ => trivial⟩⟩, ?_, ?_, ?_, ?_⟩
    all_goals simp only [f71, f71b, Tr.get, e1, e2]
    · exact .refl _
    · exact Nat.zero_le _
  · have e1 : decide (sizeOk v.a) = false := decide_eq_false hs
    have e2 := szB_f hs
    refine ⟨⟨h1, ⟨fun _ => trivial, fun _ => trivial⟩⟩, ?_, ?_, ?_, ?_⟩
    all_goals simp only [f71, f71b, Tr.get, e1, e2]
    · exact .refl _
    · exact Nat.zero_le _
noncomputable def nice18c : List (Nat × CF th.R) := (71, lift (fnC d71 ofV71 f71b)) :: nice89n
theorem nok18c : NiceOk Try.prog th nice18c := ⟨lift_sound s71b, nok89n⟩
end Go.Sx.M

