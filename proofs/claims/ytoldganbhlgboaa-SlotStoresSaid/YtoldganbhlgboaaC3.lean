/- Contracts of the functions of this seat, each by the executor and the kernel; part 3. Their conditions stand in each. -/
import Derived.Test.YtoldganbhlgboaaC2
import Derived.Deep.RegionWith
import Derived.Deep.QuietTactic
import Derived.BigQuiet
set_option linter.unusedVariables false
set_option linter.unusedSimpArgs false
set_option linter.unnecessarySimpa false
namespace Go.Sx.M
open Go Go.Sx Go.Proofs Go.RowKit
set_option maxRecDepth 100000
structure V198 where
  L : Nat
  a : Int
  b : Int
  Q : Nat
  F : Nat → Int
def A198 (v : V198) : List SV := [.slc 0 1 0 v.L, .int .i64 v.a, .int .i64 v.b]
def H198 (v : V198) : List (HO th.R) := [.row 22 1 v.Q (fun j => [.int .u64 (v.F j)])]
def toV198 (v : V198) : List (Vl th.R) := [.n v.L, .i v.a, .i v.b, .n v.Q, .c v.F]
def ofV198 : List (Vl th.R) → Option V198
  | [.n L, .i a, .i b, .n Q, .c F] => some ⟨L, a, b, Q, F⟩
  | _ => none
def d198 : Ft := ⟨[.slc0 0 1, .int .i64, .int .i64], [.rowc 22 [.int .u64]]⟩
structure P198_1 where
  n0 : Nat
  x1 : Int
  x2 : Int
  x6 : Int
  N0 : Nat
structure S198_1 where
  x7 : Int
  F0_0 : Nat → Int
noncomputable instance : Inhabited S198_1 := ⟨⟨0, fun _ => 0⟩⟩
def I198_1 (p : P198_1) (s : S198_1) : St th.R := ⟨[some (.slc 0 1 0 p.n0), some (.int .i64 p.x1), some (.int .i64 p.x2), none, none, none, some (.int .i64 p.x6), some (.int .i64 s.x7), none, none, none, none, none, none, none, none, none, none, none, none, none, none, none, none, none, none, none, none, none, none, none, none, none, none, none, none, none, none, none, none, none, none, none, none, none, none, none, none, none], [.row 22 1 p.N0 (fun j => [.int .u64 (s.F0_0 j)])], [], []⟩
def d198_1 : Lp := ⟨⟨49, [(0, .slc0 0 1), (1, .int .i64), (2, .int .i64), (6, .int .i64), (7, .int .i64)], [.rowc 22 [.int .u64]]⟩, [], 1, [0], [0, 1, 2, 6, 20, 21, 22, 23, 24, 25, 26, 27, 28, 29], []⟩
def toV198_1 (p : P198_1) (s : S198_1) : List (Vl th.R) := [.n p.n0, .i p.x1, .i p.x2, .i p.x6, .i s.x7, .n p.N0, .c s.F0_0]
def ofV198_1 : List (Vl th.R) → Option (P198_1 × S198_1)
  | [.n n0, .i x1, .i x2, .i x6, .i x7, .n N0, .c F0_0] => some (⟨n0, x1, x2, x6, N0⟩, ⟨x7, F0_0⟩)
  | _ => none
noncomputable def e198_1_7 (p : P198_1) (s : S198_1) : (Nat) := (0:Nat) + s.x7.toNat
noncomputable def e198_1_8 (p : P198_1) (s : S198_1) : (Int) := IntKind.i64.wrap (s.x7 - (1:Int))
noncomputable def e198_1_9 (p : P198_1) (s : S198_1) : (Nat) := (0:Nat) + (e198_1_8 p s).toNat
noncomputable def e198_1_10 (p : P198_1) (s : S198_1) : (Int) := s.F0_0 (e198_1_7 p s)
noncomputable def e198_1_11 (p : P198_1) (s : S198_1) : (Int) := s.F0_0 (e198_1_9 p s)
noncomputable def e198_1_0 (p : P198_1) (s : S198_1) : (Prop) := (cnd (decide (s.x7 > p.x1)) true false = true → (0:Int) ≤ s.x7 ∧ s.x7 < (↑p.n0:Int)) ∧ (cnd (decide (s.x7 > p.x1)) true false = true → e198_1_7 p s < p.N0) ∧ (cnd (decide (s.x7 > p.x1)) true false = true → (0:Int) ≤ e198_1_8 p s ∧ e198_1_8 p s < (↑p.n0:Int)) ∧ (cnd (decide (s.x7 > p.x1)) true false = true → e198_1_9 p s < p.N0) ∧ (cnd (decide (s.x7 > p.x1)) true false = true → pre204 (V204.mk (e198_1_10 p s) (e198_1_11 p s)))
noncomputable def e198_1_1 (p : P198_1) (s : S198_1) : (Bool) := cnd (cnd (decide (s.x7 > p.x1)) (decide (e198_1_10 p s < e198_1_11 p s)) false) false true
noncomputable def e198_1_2 (p : P198_1) (s : S198_1) : (Prop) := ∀ (i:Nat), scpL (0:Nat) ((fun (j:Nat) => [SV.int IntKind.u64 (s.F0_0 j)]) i) = true
noncomputable def e198_1_3 (p : P198_1) (s : S198_1) : (Prop) := (true = true → (0:Int) ≤ e198_1_8 p s ∧ e198_1_8 p s < (↑p.n0:Int)) ∧ (true = true → e198_1_9 p s < p.N0) ∧ (true = true → (0:Int) ≤ s.x7 ∧ s.x7 < (↑p.n0:Int)) ∧ (true = true → e198_1_7 p s < p.N0) ∧ (true = true → (0:Int) ≤ s.x7 ∧ s.x7 < (↑p.n0:Int)) ∧ (e198_1_7 p s < p.N0 ∧ (1:Nat) = (1:Nat)) ∧ (true = true → (0:Int) ≤ e198_1_8 p s ∧ e198_1_8 p s < (↑p.n0:Int)) ∧ e198_1_9 p s < p.N0 ∧ (1:Nat) = (1:Nat)
noncomputable def e198_1_4 (p : P198_1) (s : S198_1) : (Prop) := (∀ (i:Nat), scpL (0:Nat) ((fun (j:Nat) => rowSet (j.beq (e198_1_9 p s)) (splice ((fun (j:Nat) => rowSet (j.beq (e198_1_7 p s)) (splice ((fun (j:Nat) => [SV.int IntKind.u64 (s.F0_0 j)]) (e198_1_7 p s)) (0:Nat) (SV.int IntKind.u64 (e198_1_11 p s)).cells) ((fun (j:Nat) => [SV.int IntKind.u64 (s.F0_0 j)]) j)) (e198_1_9 p s)) (0:Nat) (SV.int IntKind.u64 (e198_1_10 p s)).cells) ((fun (j:Nat) => rowSet (j.beq (e198_1_7 p s)) (splice ((fun (j:Nat) => [SV.int IntKind.u64 (s.F0_0 j)]) (e198_1_7 p s)) (0:Nat) (SV.int IntKind.u64 (e198_1_11 p s)).cells) ((fun (j:Nat) => [SV.int IntKind.u64 (s.F0_0 j)]) j)) j)) i) = true) ∧ ∀ (i:Nat), i < p.N0 → (fun (j:Nat) => rowSet (j.beq (e198_1_9 p s)) (splice ((fun (j:Nat) => rowSet (j.beq (e198_1_7 p s)) (splice ((fun (j:Nat) => [SV.int IntKind.u64 (s.F0_0 j)]) (e198_1_7 p s)) (0:Nat) (SV.int IntKind.u64 (e198_1_11 p s)).cells) ((fun (j:Nat) => [SV.int IntKind.u64 (s.F0_0 j)]) j)) (e198_1_9 p s)) (0:Nat) (SV.int IntKind.u64 (e198_1_10 p s)).cells) ((fun (j:Nat) => rowSet (j.beq (e198_1_7 p s)) (splice ((fun (j:Nat) => [SV.int IntKind.u64 (s.F0_0 j)]) (e198_1_7 p s)) (0:Nat) (SV.int IntKind.u64 (e198_1_11 p s)).cells) ((fun (j:Nat) => [SV.int IntKind.u64 (s.F0_0 j)]) j)) j)) i = elC (fun (j:Nat) => rowSet (j.beq (e198_1_9 p s)) (splice ((fun (j:Nat) => rowSet (j.beq (e198_1_7 p s)) (splice ((fun (j:Nat) => [SV.int IntKind.u64 (s.F0_0 j)]) (e198_1_7 p s)) (0:Nat) (SV.int IntKind.u64 (e198_1_11 p s)).cells) ((fun (j:Nat) => [SV.int IntKind.u64 (s.F0_0 j)]) j)) (e198_1_9 p s)) (0:Nat) (SV.int IntKind.u64 (e198_1_10 p s)).cells) ((fun (j:Nat) => rowSet (j.beq (e198_1_7 p s)) (splice ((fun (j:Nat) => [SV.int IntKind.u64 (s.F0_0 j)]) (e198_1_7 p s)) (0:Nat) (SV.int IntKind.u64 (e198_1_11 p s)).cells) ((fun (j:Nat) => [SV.int IntKind.u64 (s.F0_0 j)]) j)) j)) (0:Nat) [Ck.int IntKind.u64] i
noncomputable def e198_1_5 (p : P198_1) (s : S198_1) : (Int) := e198_1_8 p s
noncomputable def e198_1_6 (p : P198_1) (s : S198_1) : Nat → (Int) := fun (j:Nat) => cnd (j.beq (e198_1_9 p s)) (e198_1_10 p s) (cnd (j.beq (e198_1_7 p s)) (e198_1_11 p s) (s.F0_0 j))
theorem n_e198_1_2 (p : P198_1) (s : S198_1) : e198_1_2 p s := by
  unfold e198_1_2
  (repeat' first | intro _ | apply And.intro) <;> first | rfl | exact absurd (by assumption) (Nat.not_lt_zero _) | exact scpL_rowSet (by rfl) (by rfl) | exact scpL_rowEl (by kernel_rfl) _ | omega | decide
theorem n_e198_1_4 (p : P198_1) (s : S198_1) : e198_1_4 p s := by
  unfold e198_1_4
  (repeat' first | intro _ | apply And.intro) <;> first | rfl | exact absurd (by assumption) (Nat.not_lt_zero _) | exact scpL_rowSet (by rfl) (by rfl) | exact scpL_rowEl (by kernel_rfl) _ | omega | decide
noncomputable def rf198_1 (p : P198_1) (s : S198_1) : Tr (Rs th.R S198_1) := (Tr.need (e198_1_0 p s) (Tr.ite (e198_1_1 p s) (Tr.need (e198_1_2 p s) (Tr.leaf (Rs.out (Ex.exit (2:Nat)) [(some (SV.slc (0:Nat) (1:Nat) (0:Nat) (p.n0))), some (SV.int .i64 (p.x1)), some (SV.int .i64 (p.x2)), none, none, none, some (SV.int .i64 (p.x6)), none, none, none, none, none, none, none, none, none, none, none, none, none, none, none, none, none, none, none, none, none, none, none, none, none, none, none, none, none, none, none, none, none, none, none, none, none, none, none, none, none, none] [(HO.row (22:Nat) (1:Nat) (p.N0) (fun j => [SV.int .u64 (s.F0_0 j)]))]))) (Tr.need (e198_1_3 p s) (Tr.need (e198_1_4 p s) (Tr.leaf (Rs.on (S198_1.mk ((e198_1_5 p s)) ((fun j => (e198_1_6 p s j))))))))))
noncomputable def r198_1 (p : P198_1) (s : S198_1) : Tr (Rs th.R S198_1) := (Tr.need (e198_1_0 p s) (Tr.ite (e198_1_1 p s) (Tr.leaf (Rs.out (Ex.exit (2:Nat)) [(some (SV.slc (0:Nat) (1:Nat) (0:Nat) (p.n0))), some (SV.int .i64 (p.x1)), some (SV.int .i64 (p.x2)), none, none, none, some (SV.int .i64 (p.x6)), none, none, none, none, none, none, none, none, none, none, none, none, none, none, none, none, none, none, none, none, none, none, none, none, none, none, none, none, none, none, none, none, none, none, none, none, none, none, none, none, none, none] [(HO.row (22:Nat) (1:Nat) (p.N0) (fun j => [SV.int .u64 (s.F0_0 j)]))])) (Tr.need (e198_1_3 p s) (Tr.leaf (Rs.on (S198_1.mk ((e198_1_5 p s)) ((fun j => (e198_1_6 p s j)))))))))
noncomputable def E198_1 : St th.R → Out th := evCode th Try.prog (auto th Try.prog nice204n [] 20) (autoH [] [] [] [] : Hints th) (lpAt Try.prog 198 1)
theorem B198_1 : CodeSound th Try.prog (lpAt Try.prog 198 1) E198_1 := evCode_sound (T := th) (P := Try.prog) (tbl := (auto th Try.prog nice204n [] 20)) (auto_sound (nice := nice204n) (us := []) nok204n 20) (autoH [] [] [] [] : Hints th) _ (LoopsOk_mem (fun _ => rfl) _ fun b hb L hL => by cases hL)
noncomputable def L198_1 : St th.R → Out th := loopL d198_1 ofV198_1 r198_1
theorem h1_198_1 (p : P198_1) (s : S198_1) : bld d198_1.tm (toV198_1 p s) = some (I198_1 p s) := by kernel_rfl
theorem h2_198_1 (l : List (Vl th.R)) (p : P198_1) (s : S198_1) (h : ofV198_1 l = some (p, s)) : l = toV198_1 p s := by
  unfold ofV198_1 at h
  split at h
  · cases h; rfl
  · cases h
theorem h3_198_1 (p : P198_1) (s : S198_1) : cvE d198_1 (E198_1 (I198_1 p s)) = some ((rf198_1 p s).map (Rs.map (toV198_1 p))) := by kernel_rfl
theorem h3g_198_1 (p : P198_1) (s : S198_1) : (rf198_1 p s).get = (r198_1 p s).get := by kernel_rfl
theorem h4_198_1 (p : P198_1) (s s1 : S198_1) : outH d198_1.dirt d198_1.n0 (r198_1 p s) = repH (maskH d198_1.dirt 0 d198_1.n0 (I198_1 p s1).heap) (r198_1 p s) := by kernel_rfl
theorem ls198_1 : CodeSound th Try.prog (.loop (lpAt Try.prog 198 1)) L198_1 := loopL_sound B198_1 d198_1 I198_1 toV198_1 (by kernel_rfl) h1_198_1 h2_198_1
  (fun p s => ⟨(rf198_1 p s).map (Rs.map (toV198_1 p)), h3_198_1 p s, fun h => by
    rw [Tr.map_ok]
    unfold r198_1 at h; unfold rf198_1
    simp only [Tr.ok, n_e198_1_2, n_e198_1_4, true_and, and_true, forall_const, implies_true] at h ⊢
    try exact h, by rw [Tr.map_get, h3g_198_1 p s]⟩) h4_198_1
structure P198_0 where
  n0 : Nat
  x1 : Int
  x2 : Int
  N0 : Nat
structure S198_0 where
  x6 : Int
  F0_0 : Nat → Int
noncomputable instance : Inhabited S198_0 := ⟨⟨0, fun _ => 0⟩⟩
def I198_0 (p : P198_0) (s : S198_0) : St th.R := ⟨[some (.slc 0 1 0 p.n0), some (.int .i64 p.x1), some (.int .i64 p.x2), none, none, none, some (.int .i64 s.x6), none, none, none, none, none, none, none, none, none, none, none, none, none, none, none, none, none, none, none, none, none, none, none, none, none, none, none, none, none, none, none, none, none, none, none, none, none, none, none, none, none, none], [.row 22 1 p.N0 (fun j => [.int .u64 (s.F0_0 j)])], [], []⟩
def d198_0 : Lp := ⟨⟨49, [(0, .slc0 0 1), (1, .int .i64), (2, .int .i64), (6, .int .i64)], [.rowc 22 [.int .u64]]⟩, [], 1, [0], [], []⟩
def toV198_0 (p : P198_0) (s : S198_0) : List (Vl th.R) := [.n p.n0, .i p.x1, .i p.x2, .i s.x6, .n p.N0, .c s.F0_0]
def ofV198_0 : List (Vl th.R) → Option (P198_0 × S198_0)
  | [.n n0, .i x1, .i x2, .i x6, .n N0, .c F0_0] => some (⟨n0, x1, x2, N0⟩, ⟨x6, F0_0⟩)
  | _ => none
noncomputable def e198_0_0 (p : P198_0) (s : S198_0) : (Bool) := cnd (decide (s.x6 < p.x2)) false true
noncomputable def e198_0_1 (p : P198_0) (s : S198_0) : (Prop) := ∀ (i:Nat), scpL (0:Nat) ((fun (j:Nat) => [SV.int IntKind.u64 (s.F0_0 j)]) i) = true
noncomputable def e198_0_2 (p : P198_0) (s : S198_0) : (Prop) := ∀ (i:Nat), i < p.N0 → (fun (j:Nat) => [SV.int IntKind.u64 (s.F0_0 j)]) i = elC (fun (j:Nat) => [SV.int IntKind.u64 (s.F0_0 j)]) (0:Nat) [Ck.int IntKind.u64] i
noncomputable def e198_0_3 (p : P198_0) (s : S198_0) : (Prop) := LT (r198_1 (P198_1.mk p.n0 p.x1 p.x2 s.x6 p.N0)) (S198_1.mk s.x6 s.F0_0)
noncomputable def e198_0_4 (p : P198_0) (s : S198_0) : (Prop) := (∀ (i:Nat), scpL (0:Nat) ((fun (j:Nat) => [SV.int IntKind.u64 ((lastS (r198_1 (P198_1.mk p.n0 p.x1 p.x2 s.x6 p.N0)) (S198_1.mk s.x6 s.F0_0)).F0_0 j)]) i) = true) ∧ ∀ (i:Nat), i < p.N0 → (fun (j:Nat) => [SV.int IntKind.u64 ((lastS (r198_1 (P198_1.mk p.n0 p.x1 p.x2 s.x6 p.N0)) (S198_1.mk s.x6 s.F0_0)).F0_0 j)]) i = elC (fun (j:Nat) => [SV.int IntKind.u64 ((lastS (r198_1 (P198_1.mk p.n0 p.x1 p.x2 s.x6 p.N0)) (S198_1.mk s.x6 s.F0_0)).F0_0 j)]) (0:Nat) [Ck.int IntKind.u64] i
noncomputable def e198_0_5 (p : P198_0) (s : S198_0) : (Int) := IntKind.i64.wrap (s.x6 + (1:Int))
noncomputable def e198_0_6 (p : P198_0) (s : S198_0) : (Nat → Int) := (lastS (r198_1 (P198_1.mk p.n0 p.x1 p.x2 s.x6 p.N0)) (S198_1.mk s.x6 s.F0_0)).F0_0
theorem n_e198_0_1 (p : P198_0) (s : S198_0) : e198_0_1 p s := by
  unfold e198_0_1
  (repeat' first | intro _ | apply And.intro) <;> first | rfl | exact absurd (by assumption) (Nat.not_lt_zero _) | exact scpL_rowSet (by rfl) (by rfl) | exact scpL_rowEl (by kernel_rfl) _ | omega | decide
theorem n_e198_0_2 (p : P198_0) (s : S198_0) : e198_0_2 p s := by
  unfold e198_0_2
  (repeat' first | intro _ | apply And.intro) <;> first | rfl | exact absurd (by assumption) (Nat.not_lt_zero _) | exact scpL_rowSet (by rfl) (by rfl) | exact scpL_rowEl (by kernel_rfl) _ | omega | decide
theorem n_e198_0_4 (p : P198_0) (s : S198_0) : e198_0_4 p s := by
  unfold e198_0_4
  (repeat' first | intro _ | apply And.intro) <;> first | rfl | exact absurd (by assumption) (Nat.not_lt_zero _) | exact scpL_rowSet (by rfl) (by rfl) | exact scpL_rowEl (by kernel_rfl) _ | omega | decide
noncomputable def rf198_0 (p : P198_0) (s : S198_0) : Tr (Rs th.R S198_0) := (Tr.ite (e198_0_0 p s) (Tr.need (e198_0_1 p s) (Tr.leaf (Rs.out (Ex.exit (0:Nat)) [none, none, none, none, none, none, none, none, none, none, none, none, none, none, none, none, none, none, none, none, none, none, none, none, none, none, none, none, none, none, none, none, none, none, none, none, none, none, none, none, none, none, none, none, none, none, none, none, none] [(HO.row (22:Nat) (1:Nat) (p.N0) (fun j => [SV.int .u64 (s.F0_0 j)]))]))) (Tr.need (e198_0_2 p s) (Tr.need (e198_0_3 p s) (Tr.need (e198_0_4 p s) (Tr.leaf (Rs.on (S198_0.mk ((e198_0_5 p s)) ((e198_0_6 p s)))))))))
noncomputable def r198_0 (p : P198_0) (s : S198_0) : Tr (Rs th.R S198_0) := (Tr.ite (e198_0_0 p s) (Tr.leaf (Rs.out (Ex.exit (0:Nat)) [none, none, none, none, none, none, none, none, none, none, none, none, none, none, none, none, none, none, none, none, none, none, none, none, none, none, none, none, none, none, none, none, none, none, none, none, none, none, none, none, none, none, none, none, none, none, none, none, none] [(HO.row (22:Nat) (1:Nat) (p.N0) (fun j => [SV.int .u64 (s.F0_0 j)]))])) (Tr.need (e198_0_3 p s) (Tr.leaf (Rs.on (S198_0.mk ((e198_0_5 p s)) ((e198_0_6 p s)))))))
noncomputable def E198_0 : St th.R → Out th := evCode th Try.prog (auto th Try.prog nice204n [] 20) (autoH [(4, L198_1)] [] [] [] : Hints th) (lpAt Try.prog 198 0)
theorem ok198_0 : LoopsOk th Try.prog (autoH [(4, L198_1)] [] [] [] : Hints th) (lpAt Try.prog 198 0) := autoH_ok (bs := [lpAt Try.prog 198 1]) (by kernel_rfl) fun b hb L hL => by
  simp only [List.mem_cons, List.not_mem_nil, or_false] at hb
  rcases hb with rfl
  · have e : lookL [(4, L198_1)] (firstReg (lpAt Try.prog 198 1)) = some L198_1 := by kernel_rfl
    rw [e] at hL; cases hL
    exact ls198_1
theorem B198_0 : CodeSound th Try.prog (lpAt Try.prog 198 0) E198_0 := evCode_sound (T := th) (P := Try.prog) (tbl := (auto th Try.prog nice204n [] 20)) (auto_sound (nice := nice204n) (us := []) nok204n 20) (autoH [(4, L198_1)] [] [] [] : Hints th) _ ok198_0
noncomputable def L198_0 : St th.R → Out th := loopL d198_0 ofV198_0 r198_0
theorem h1_198_0 (p : P198_0) (s : S198_0) : bld d198_0.tm (toV198_0 p s) = some (I198_0 p s) := by kernel_rfl
theorem h2_198_0 (l : List (Vl th.R)) (p : P198_0) (s : S198_0) (h : ofV198_0 l = some (p, s)) : l = toV198_0 p s := by
  unfold ofV198_0 at h
  split at h
  · cases h; rfl
  · cases h
theorem h3_198_0 (p : P198_0) (s : S198_0) : cvE d198_0 (E198_0 (I198_0 p s)) = some ((rf198_0 p s).map (Rs.map (toV198_0 p))) := by kernel_rfl
theorem h3g_198_0 (p : P198_0) (s : S198_0) : (rf198_0 p s).get = (r198_0 p s).get := by kernel_rfl
theorem h4_198_0 (p : P198_0) (s s1 : S198_0) : outH d198_0.dirt d198_0.n0 (r198_0 p s) = repH (maskH d198_0.dirt 0 d198_0.n0 (I198_0 p s1).heap) (r198_0 p s) := by kernel_rfl
theorem ls198_0 : CodeSound th Try.prog (.loop (lpAt Try.prog 198 0)) L198_0 := loopL_sound B198_0 d198_0 I198_0 toV198_0 (by kernel_rfl) h1_198_0 h2_198_0
  (fun p s => ⟨(rf198_0 p s).map (Rs.map (toV198_0 p)), h3_198_0 p s, fun h => by
    rw [Tr.map_ok]
    unfold r198_0 at h; unfold rf198_0
    simp only [Tr.ok, n_e198_0_1, n_e198_0_2, n_e198_0_4, true_and, and_true, forall_const, implies_true] at h ⊢
    try exact h, by rw [Tr.map_get, h3g_198_0 p s]⟩) h4_198_0
theorem ok198 : LoopsOk th Try.prog (autoH [(1, L198_0)] [] [] [] : Hints th) (bodyOf Try.prog 198) := autoH_ok (bs := [lpAt Try.prog 198 0, lpAt Try.prog 198 1]) (by kernel_rfl) fun b hb L hL => by
  simp only [List.mem_cons, List.not_mem_nil, or_false] at hb
  rcases hb with rfl | rfl
  · have e : lookL [(1, L198_0)] (firstReg (lpAt Try.prog 198 0)) = some L198_0 := by kernel_rfl
    rw [e] at hL; cases hL
    exact ls198_0
  · have e : lookL [(1, L198_0)] (firstReg (lpAt Try.prog 198 1)) = (none : Option (St th.R → Out th)) := by kernel_rfl
    rw [e] at hL; cases hL
noncomputable def f198_4 (v : V198) : (S198_0) := S198_0.mk (IntKind.i64.wrap (v.a + (1:Int))) v.F
noncomputable def f198_0 (v : V198) : (Prop) := ∀ (i:Nat), i < v.Q → (fun (j:Nat) => [SV.int IntKind.u64 (v.F j)]) i = elC (fun (j:Nat) => [SV.int IntKind.u64 (v.F j)]) (0:Nat) [Ck.int IntKind.u64] i
noncomputable def f198_1 (v : V198) : (Prop) := LT (r198_0 (P198_0.mk v.L v.a v.b v.Q)) (f198_4 v)
noncomputable def f198z0 (v : V198) : S198_0 := lastS (r198_0 (P198_0.mk v.L v.a v.b v.Q)) (f198_4 v)
noncomputable def f198_2 (v : V198) : (Prop) := ∀ (i:Nat), scpL (1:Nat) ((fun (j:Nat) => [SV.int IntKind.u64 ((f198z0 v).F0_0 j)]) i) = true
noncomputable def f198_3 (v : V198) : Nat → (Int) := fun (j:Nat) => (f198z0 v).F0_0 j
theorem n_f198_0 (v : V198) : f198_0 v := by
  unfold f198_0
  (repeat' first | intro _ | apply And.intro) <;> first | rfl | exact absurd (by assumption) (Nat.not_lt_zero _) | exact scpL_rowSet (by rfl) (by rfl) | exact scpL_rowEl (by kernel_rfl) _ | omega | decide
theorem n_f198_2 (v : V198) : f198_2 v := by
  unfold f198_2
  (repeat' first | intro _ | apply And.intro) <;> first | rfl | exact absurd (by assumption) (Nat.not_lt_zero _) | exact scpL_rowSet (by rfl) (by rfl) | exact scpL_rowEl (by kernel_rfl) _ | omega | decide
noncomputable def ff198 (v : V198) : Tr (Fin th.R) := (Tr.need (f198_0 v) (Tr.need (f198_1 v) (Tr.need (f198_2 v) (Tr.leaf (SV.tup [], [(HO.row (22:Nat) (1:Nat) (v.Q) (fun j => [SV.int .u64 (f198_3 v j)]))], [(0:Nat)])))))
noncomputable def f198 (v : V198) : Tr (Fin th.R) := (Tr.need (f198_1 v) (Tr.leaf (SV.tup [], [(HO.row (22:Nat) (1:Nat) (v.Q) (fun j => [SV.int .u64 (f198_3 v j)]))], [0])))
noncomputable def C198 : CF th.R := fnC d198 ofV198 (f198 )
theorem q198 (v : V198) : (evFn th Try.prog (auto th Try.prog nice204n [] 20) (autoH [(1, L198_0)] [] [] [] : Hints th) 198) (A198 v) (H198 v) = some (ff198 v) := by kernel_rfl
theorem qg198 (v : V198) : ((ff198 v).map (setD [0])).get = (f198 v).get := by kernel_rfl
theorem qd198 (v : V198) : allD 1 [0] (ff198 v) = true := by kernel_rfl
theorem s198 : Sound Try.prog th 198 (C198 ) := fnC_sound (evFn_sound' (T := th) (P := Try.prog) (tbl := (auto th Try.prog nice204n [] 20)) (auto_sound (nice := nice204n) (us := []) nok204n 20) (H := (autoH [(1, L198_0)] [] [] [] : Hints th)) (k := 198) (fnLoops ok198)) d198 A198 H198 toV198 (by kernel_rfl) (fun v => by kernel_rfl)
  (fun l v h => by
    unfold ofV198 at h
    split at h
    · cases h; rfl
    · cases h)
  [0] (fun v => ⟨ff198 v, q198 v, fun h => by
    unfold f198 at h; unfold ff198
    simp only [Tr.ok, n_f198_0, n_f198_2, true_and, and_true, forall_const, implies_true] at h ⊢
    try exact h, qg198 v, qd198 v⟩)
theorem qdd198 (v : V198) : (f198 v).get.2.2 = [0] := by
  rw [← qg198, Tr.map_get]; rfl
set_option maxRecDepth 100000
open Go.Sort (insInner insOuter ltInt swp)
theorem l198_1 {p : P198_1} {s : S198_1} {a n j : Nat} (hp : p.x1 = a ∧ p.n0 = n ∧ p.N0 = n ∧ n < 4611686018427387904) (hs : s.x7 = j ∧ j < n) : LT (r198_1 p) s ∧ ar (lastS (r198_1 p) s).F0_0 n = insInner ltInt a j (ar s.F0_0 n) := by
  obtain ⟨h1, h0, hN, hn⟩ := hp
  refine LT.post (fun t : S198_1 => ∃ i : Nat, t.x7 = i ∧ i < n ∧ insInner ltInt a i (ar t.F0_0 n) = insInner ltInt a j (ar s.F0_0 n)) (fun t : S198_1 => ar t.F0_0 n = insInner ltInt a j (ar s.F0_0 n)) (fun t : S198_1 => t.x7.toNat) ?_ ⟨j, hs.1, hs.2, rfl⟩
  rintro ⟨x7, F⟩ ⟨i, g1, g2, g3⟩
  simp only at g1 g3
  subst g1
  rw [← g3]
  have e7 : e198_1_7 p ⟨i, F⟩ = i := by show 0 + (i:Int).toNat = i; omega
  have e8 : e198_1_8 p ⟨i, F⟩ = (i:Int) - 1 := by show IntKind.i64.wrap ((i:Int) - 1) = _; rw [wi (by omega) (by omega)]
  have e9 : e198_1_9 p ⟨i, F⟩ = i - 1 := by show 0 + (e198_1_8 p ⟨i, F⟩).toNat = i - 1; rw [e8]; omega
  have nd : e198_1_0 p ⟨i, F⟩ := by
    unfold e198_1_0
    rw [e7, e8, e9, h0, hN]
    refine ⟨fun _ => ⟨by show (0:Int) ≤ i; omega, by show (i:Int) < n; omega⟩, fun _ => g2, fun e => ?_, fun _ => by omega, fun _ => trivial⟩
    have : (i:Int) > p.x1 := by simpa [cnd_id] using e
    omega
  by_cases hc : i > a ∧ F i < F (i - 1)
  · obtain ⟨k, rfl⟩ : ∃ k, i = k + 1 := ⟨i - 1, by omega⟩
    have ek : k + 1 - 1 = k := by omega
    rw [ek] at hc e9
    have hd : e198_1_1 p ⟨((k + 1:Nat):Int), F⟩ = false := by
      show cnd (cnd (decide (((k + 1:Nat):Int) > p.x1)) (decide (e198_1_10 p _ < e198_1_11 p _)) false) false true = false
      unfold e198_1_10 e198_1_11
      rw [e7, e9, decide_eq_true (show ((k + 1:Nat):Int) > p.x1 by omega)]
      have : decide (F (k + 1) < F k) = true := decide_eq_true hc.2
      show cnd (cnd true (decide (F (k + 1) < F k)) false) false true = false
      rw [this]; rfl
    simp only [r198_1, hd, Tr.ok, Tr.get]
    refine ⟨⟨nd, (fun e => by cases e), fun _ => ⟨?_, trivial⟩⟩, .inr ⟨_, rfl, ⟨k, by show e198_1_8 p _ = _; rw [e8]; omega, by omega, ?_⟩, by show (e198_1_8 p _).toNat < _; rw [e8]; omega⟩⟩
    · unfold e198_1_3
      rw [e7, e8, e9, h0, hN]
      (repeat' first | apply And.intro | intro _) <;> first
        | rfl
        | omega
        | (show (0:Int) ≤ ((k + 1:Nat):Int); omega)
        | (show ((k + 1:Nat):Int) < n; omega)
    · show insInner ltInt a k (ar (e198_1_6 p ⟨((k + 1:Nat):Int), F⟩) n) = insInner ltInt a (k + 1) (ar F n)
      have e6 : e198_1_6 p ⟨((k + 1:Nat):Int), F⟩ = swF F (k + 1) k := by
        funext q
        show cnd (Nat.beq q (e198_1_9 p _)) (e198_1_10 p _) (cnd (Nat.beq q (e198_1_7 p _)) (e198_1_11 p _) (F q)) = _
        unfold e198_1_10 e198_1_11
        rw [e7, e9]; rfl
      have e2 : ltInt (ar F n)[k + 1]! (ar F n)[k]! = true := by rw [lt_ar g2 (by omega)]; exact decide_eq_true hc.2
      rw [e6, ← ar_swp g2 (by omega)]
      show _ = if k + 1 > a && ltInt (ar F n)[k + 1]! (ar F n)[k]! then insInner ltInt a k (swp (ar F n) (k + 1) k) else ar F n
      rw [e2, if_pos (by simpa using hc.1)]
  · have hd : e198_1_1 p ⟨i, F⟩ = true := by
      show cnd (cnd (decide ((i:Int) > p.x1)) (decide (e198_1_10 p _ < e198_1_11 p _)) false) false true = true
      unfold e198_1_10 e198_1_11
      rw [e7, e9]
      by_cases ha : i > a
      · rw [decide_eq_true (show (i:Int) > p.x1 by omega)]
        have : decide (F i < F (i - 1)) = false := decide_eq_false fun e => hc ⟨ha, e⟩
        show cnd (cnd true (decide (F i < F (i - 1))) false) false true = true
        rw [this]; rfl
      · rw [decide_eq_false (show ¬ (i:Int) > p.x1 by omega)]; rfl
    simp only [r198_1, hd, Tr.ok, Tr.get]
    refine ⟨⟨nd, fun _ => trivial, (fun e => by cases e)⟩, .inl ⟨⟨_, _, _, rfl⟩, ?_⟩⟩
    cases i with
    | zero => rfl
    | succ k =>
      show ar F n = if k + 1 > a && ltInt (ar F n)[k + 1]! (ar F n)[k]! then insInner ltInt a k (swp (ar F n) (k + 1) k) else ar F n
      rw [lt_ar g2 (by omega), if_neg]
      simp only [Bool.and_eq_true, decide_eq_true_eq]
      exact hc
theorem l198_0 {p : P198_0} {s : S198_0} {a b n i : Nat} (hp : p.x1 = a ∧ p.x2 = b ∧ p.n0 = n ∧ p.N0 = n ∧ n < 4611686018427387904 ∧ b ≤ n) (hs : s.x6 = i ∧ a + 1 ≤ i) : LT (r198_0 p) s ∧ ar (lastS (r198_0 p) s).F0_0 n = insOuter ltInt a b i (ar s.F0_0 n) := by
  obtain ⟨h1, h2, h0, hN, hn, hb⟩ := hp
  refine LT.post (fun t : S198_0 => ∃ k : Nat, t.x6 = k ∧ insOuter ltInt a b k (ar t.F0_0 n) = insOuter ltInt a b i (ar s.F0_0 n)) (fun t : S198_0 => ar t.F0_0 n = insOuter ltInt a b i (ar s.F0_0 n)) (fun t : S198_0 => b - t.x6.toNat) ?_ ⟨i, hs.1, rfl⟩
  rintro ⟨x6, F⟩ ⟨k, g1, g3⟩
  simp only at g1 g3
  subst g1
  rw [← g3]
  by_cases hc : k < b
  · have hd : e198_0_0 p ⟨k, F⟩ = false := by
      show cnd (decide ((k:Int) < p.x2)) false true = false
      rw [h2, decide_eq_true (by omega)]; rfl
    have m := l198_1 (p := P198_1.mk p.n0 p.x1 p.x2 k p.N0) (s := ⟨k, F⟩) (a := a) (n := n) (j := k) ⟨h1, h0, hN, hn⟩ ⟨rfl, by omega⟩
    have w : IntKind.i64.wrap ((k:Int) + 1) = ((k + 1:Nat):Int) := by rw [wi (by omega) (by omega)]; omega
    simp only [r198_0, hd, Tr.ok, Tr.get]
    refine ⟨⟨(fun e => by cases e), fun _ => ⟨m.1, trivial⟩⟩, .inr ⟨_, rfl, ⟨k + 1, w, ?_⟩, by show b - (IntKind.i64.wrap ((k:Int) + 1)).toNat < b - (k:Int).toNat; rw [w]; omega⟩⟩
    show insOuter ltInt a b (k + 1) (ar (e198_0_6 p ⟨k, F⟩) n) = _
    have e6 : ar (e198_0_6 p ⟨k, F⟩) n = insInner ltInt a k (ar F n) := m.2
    rw [e6, insOuter.eq_1 (i := k), if_pos hc]
  · have hd : e198_0_0 p ⟨k, F⟩ = true := by
      show cnd (decide ((k:Int) < p.x2)) false true = true
      rw [h2, decide_eq_false (by omega)]; rfl
    simp only [r198_0, hd, Tr.ok, Tr.get]
    refine ⟨⟨fun _ => trivial, (fun e => by cases e)⟩, .inl ⟨⟨_, _, _, rfl⟩, ?_⟩⟩
    show ar F n = _
    rw [insOuter.eq_1 (i := k), if_neg hc]
def pre198 (v : V198) : Prop := v.Q = v.L ∧ v.L < 4611686018427387904 ∧ 0 ≤ v.a ∧ v.a ≤ v.b ∧ v.b ≤ v.L
theorem n198 (v : V198) (h : pre198 v) : (f198 v).ok ∧ (f198 v).get.1 = .tup [] ∧ HOws (f198 v).get.2.1 [HO.row 22 1 v.L (fun j => [.int .u64 (gt (Go.Sort.insertionSort Go.Sort.ltInt (ar v.F v.L) v.a.toNat v.b.toNat) j)])] := by
  obtain ⟨hQ, hn, a0, hab, hb⟩ := h
  have m : LT (r198_0 (P198_0.mk v.L v.a v.b v.Q)) (f198_4 v) ∧ ar (f198z0 v).F0_0 v.L = insOuter ltInt v.a.toNat v.b.toNat (v.a.toNat + 1) (ar v.F v.L) :=
    l198_0 (p := P198_0.mk v.L v.a v.b v.Q) (s := f198_4 v) (a := v.a.toNat) (b := v.b.toNat) (n := v.L) (i := v.a.toNat + 1) ⟨(by show v.a = _; omega), (by show v.b = _; omega), rfl, hQ, hn, by omega⟩ ⟨(by show IntKind.i64.wrap (v.a + 1) = _; rw [wi (by omega) (by omega)]; omega), by omega⟩
  refine ⟨⟨m.1, trivial⟩, rfl, ?_⟩
  simp only [f198, Tr.get, f198_3]
  exact .cons (HOw_ar hQ m.2) .nil
noncomputable def f198n (v : V198) : Tr (Fin th.R) := .need (pre198 v) (.leaf (.tup [], [.row 22 1 v.L (fun j => [.int .u64 (gt (Go.Sort.insertionSort Go.Sort.ltInt (ar v.F v.L) v.a.toNat v.b.toNat) j)])], [0]))
theorem s198n : Sound Try.prog th 198 (fnC d198 ofV198 f198n) := fnC_refine s198 fun v h => by
  obtain ⟨hp, _⟩ := h
  obtain ⟨a, b, c⟩ := n198 v hp
  exact ⟨a, b.symm, (qdd198 v).symm, c, by show 1 ≤ 1; decide⟩
noncomputable def nice198n : List (Nat × CF th.R) := (198, lift (fnC d198 ofV198 f198n)) :: nice204n
theorem nok198n : NiceOk Try.prog th nice198n := ⟨lift_sound s198n, nok204n⟩
end Go.Sx.M

namespace Go.Sx.M
open Go Go.Sx Go.Proofs Go.RowKit
set_option maxRecDepth 100000
structure V208 where
  x : Int
def A208 (v : V208) : List SV := [.int .u64 v.x]
def H208 (v : V208) : List (HO th.R) := []
def toV208 (v : V208) : List (Vl th.R) := [.i v.x]
def ofV208 : List (Vl th.R) → Option V208
  | [.i x] => some ⟨x⟩
  | _ => none
def d208 : Ft := ⟨[.int .u64], []⟩
noncomputable def f208_5 (v : V208) : (Bool) := decide (v.x ≥ (4294967296:Int))
noncomputable def f208_6 (v : V208) : (Int) := cnd (f208_5 v) (v.x.fdiv (4294967296:Int)) v.x
noncomputable def f208_7 (v : V208) : (Bool) := decide (f208_6 v ≥ (65536:Int))
noncomputable def f208_8 (v : V208) : (Int) := cnd (f208_7 v) ((f208_6 v).fdiv (65536:Int)) (f208_6 v)
noncomputable def f208_9 (v : V208) : (Bool) := decide (f208_8 v ≥ (256:Int))
noncomputable def f208_10 (v : V208) : (Int) := IntKind.u8.wrap (cnd (f208_9 v) ((f208_8 v).fdiv (256:Int)) (f208_8 v))
noncomputable def f208_11 (v : V208) : (Int) := cnd (f208_5 v) (32:Int) (0:Int)
noncomputable def f208_12 (v : V208) : (Int) := cnd (f208_7 v) (IntKind.i64.wrap (f208_11 v + (16:Int))) (f208_11 v)
noncomputable def f208_0 (v : V208) : (Prop) := f208_5 v = true → (0:Int) ≤ (32:Int)
noncomputable def f208_1 (v : V208) : (Prop) := f208_7 v = true → (0:Int) ≤ (16:Int)
noncomputable def f208_2 (v : V208) : (Prop) := f208_9 v = true → (0:Int) ≤ (8:Int)
noncomputable def f208_3 (v : V208) : (Prop) := (0:Int) ≤ f208_10 v ∧ f208_10 v < (256:Int)
noncomputable def f208_4 (v : V208) : (Int) := IntKind.i64.wrap (cnd (f208_9 v) (IntKind.i64.wrap (f208_12 v + (8:Int))) (f208_12 v) + IntKind.i64.wrap (byteAt (ByteArray.mk (([(0 : UInt8), (1 : UInt8), (2 : UInt8), (2 : UInt8), (3 : UInt8), (3 : UInt8), (3 : UInt8), (3 : UInt8), (4 : UInt8), (4 : UInt8), (4 : UInt8), (4 : UInt8), (4 : UInt8), (4 : UInt8), (4 : UInt8), (4 : UInt8), (5 : UInt8), (5 : UInt8), (5 : UInt8), (5 : UInt8), (5 : UInt8), (5 : UInt8), (5 : UInt8), (5 : UInt8), (5 : UInt8), (5 : UInt8), (5 : UInt8), (5 : UInt8), (5 : UInt8), (5 : UInt8), (5 : UInt8), (5 : UInt8), (6 : UInt8), (6 : UInt8), (6 : UInt8), (6 : UInt8), (6 : UInt8), (6 : UInt8), (6 : UInt8), (6 : UInt8), (6 : UInt8), (6 : UInt8), (6 : UInt8), (6 : UInt8), (6 : UInt8), (6 : UInt8), (6 : UInt8), (6 : UInt8), (6 : UInt8), (6 : UInt8), (6 : UInt8), (6 : UInt8), (6 : UInt8), (6 : UInt8), (6 : UInt8), (6 : UInt8), (6 : UInt8), (6 : UInt8), (6 : UInt8), (6 : UInt8), (6 : UInt8), (6 : UInt8), (6 : UInt8), (6 : UInt8)].append [(7 : UInt8), (7 : UInt8), (7 : UInt8), (7 : UInt8), (7 : UInt8), (7 : UInt8), (7 : UInt8), (7 : UInt8), (7 : UInt8), (7 : UInt8), (7 : UInt8), (7 : UInt8), (7 : UInt8), (7 : UInt8), (7 : UInt8), (7 : UInt8), (7 : UInt8), (7 : UInt8), (7 : UInt8), (7 : UInt8), (7 : UInt8), (7 : UInt8), (7 : UInt8), (7 : UInt8), (7 : UInt8), (7 : UInt8), (7 : UInt8), (7 : UInt8), (7 : UInt8), (7 : UInt8), (7 : UInt8), (7 : UInt8), (7 : UInt8), (7 : UInt8), (7 : UInt8), (7 : UInt8), (7 : UInt8), (7 : UInt8), (7 : UInt8), (7 : UInt8), (7 : UInt8), (7 : UInt8), (7 : UInt8), (7 : UInt8), (7 : UInt8), (7 : UInt8), (7 : UInt8), (7 : UInt8), (7 : UInt8), (7 : UInt8), (7 : UInt8), (7 : UInt8), (7 : UInt8), (7 : UInt8), (7 : UInt8), (7 : UInt8), (7 : UInt8), (7 : UInt8), (7 : UInt8), (7 : UInt8), (7 : UInt8), (7 : UInt8), (7 : UInt8), (7 : UInt8)]).append ([(8 : UInt8), (8 : UInt8), (8 : UInt8), (8 : UInt8), (8 : UInt8), (8 : UInt8), (8 : UInt8), (8 : UInt8), (8 : UInt8), (8 : UInt8), (8 : UInt8), (8 : UInt8), (8 : UInt8), (8 : UInt8), (8 : UInt8), (8 : UInt8), (8 : UInt8), (8 : UInt8), (8 : UInt8), (8 : UInt8), (8 : UInt8), (8 : UInt8), (8 : UInt8), (8 : UInt8), (8 : UInt8), (8 : UInt8), (8 : UInt8), (8 : UInt8), (8 : UInt8), (8 : UInt8), (8 : UInt8), (8 : UInt8), (8 : UInt8), (8 : UInt8), (8 : UInt8), (8 : UInt8), (8 : UInt8), (8 : UInt8), (8 : UInt8), (8 : UInt8), (8 : UInt8), (8 : UInt8), (8 : UInt8), (8 : UInt8), (8 : UInt8), (8 : UInt8), (8 : UInt8), (8 : UInt8), (8 : UInt8), (8 : UInt8), (8 : UInt8), (8 : UInt8), (8 : UInt8), (8 : UInt8), (8 : UInt8), (8 : UInt8), (8 : UInt8), (8 : UInt8), (8 : UInt8), (8 : UInt8), (8 : UInt8), (8 : UInt8), (8 : UInt8), (8 : UInt8)].append [(8 : UInt8), (8 : UInt8), (8 : UInt8), (8 : UInt8), (8 : UInt8), (8 : UInt8), (8 : UInt8), (8 : UInt8), (8 : UInt8), (8 : UInt8), (8 : UInt8), (8 : UInt8), (8 : UInt8), (8 : UInt8), (8 : UInt8), (8 : UInt8), (8 : UInt8), (8 : UInt8), (8 : UInt8), (8 : UInt8), (8 : UInt8), (8 : UInt8), (8 : UInt8), (8 : UInt8), (8 : UInt8), (8 : UInt8), (8 : UInt8), (8 : UInt8), (8 : UInt8), (8 : UInt8), (8 : UInt8), (8 : UInt8), (8 : UInt8), (8 : UInt8), (8 : UInt8), (8 : UInt8), (8 : UInt8), (8 : UInt8), (8 : UInt8), (8 : UInt8), (8 : UInt8), (8 : UInt8), (8 : UInt8), (8 : UInt8), (8 : UInt8), (8 : UInt8), (8 : UInt8), (8 : UInt8), (8 : UInt8), (8 : UInt8), (8 : UInt8), (8 : UInt8), (8 : UInt8), (8 : UInt8), (8 : UInt8), (8 : UInt8), (8 : UInt8), (8 : UInt8), (8 : UInt8), (8 : UInt8), (8 : UInt8), (8 : UInt8), (8 : UInt8), (8 : UInt8)])).toArray) (f208_10 v).toNat))
theorem n_f208_0 (v : V208) : f208_0 v := by
  unfold f208_0
  (repeat' first | intro _ | apply And.intro) <;> first | rfl | exact absurd (by assumption) (Nat.not_lt_zero _) | exact scpL_rowSet (by rfl) (by rfl) | exact scpL_rowEl (by kernel_rfl) _ | omega | decide
theorem n_f208_1 (v : V208) : f208_1 v := by
  unfold f208_1
  (repeat' first | intro _ | apply And.intro) <;> first | rfl | exact absurd (by assumption) (Nat.not_lt_zero _) | exact scpL_rowSet (by rfl) (by rfl) | exact scpL_rowEl (by kernel_rfl) _ | omega | decide
theorem n_f208_2 (v : V208) : f208_2 v := by
  unfold f208_2
  (repeat' first | intro _ | apply And.intro) <;> first | rfl | exact absurd (by assumption) (Nat.not_lt_zero _) | exact scpL_rowSet (by rfl) (by rfl) | exact scpL_rowEl (by kernel_rfl) _ | omega | decide
noncomputable def ff208 (v : V208) : Tr (Fin th.R) := (Tr.need (f208_0 v) (Tr.need (f208_1 v) (Tr.need (f208_2 v) (Tr.need (f208_3 v) (Tr.leaf (SV.int .i64 (f208_4 v), List.nil, List.nil))))))
noncomputable def f208 (v : V208) : Tr (Fin th.R) := (Tr.need (f208_3 v) (Tr.leaf (SV.int .i64 (f208_4 v), List.nil, [])))
noncomputable def C208 : CF th.R := fnC d208 ofV208 (f208 )
theorem q208 (v : V208) : (evFn th Try.prog (auto th Try.prog nice198n [] 20) (autoH [] [] [] [] : Hints th) 208) (A208 v) (H208 v) = some (ff208 v) := by kernel_rfl
theorem qg208 (v : V208) : ((ff208 v).map (setD [])).get = (f208 v).get := by kernel_rfl
theorem qd208 (v : V208) : allD 0 [] (ff208 v) = true := by kernel_rfl
theorem s208 : Sound Try.prog th 208 (C208 ) := fnC_sound (evFn_sound' (T := th) (P := Try.prog) (tbl := (auto th Try.prog nice198n [] 20)) (auto_sound (nice := nice198n) (us := []) nok198n 20) (H := (autoH [] [] [] [] : Hints th)) (k := 208) (fnLoops (LoopsOk_mem (fun _ => rfl) _ fun _ _ _ e => by cases e))) d208 A208 H208 toV208 (by kernel_rfl) (fun v => by kernel_rfl)
  (fun l v h => by
    unfold ofV208 at h
    split at h
    · cases h; rfl
    · cases h)
  [] (fun v => ⟨ff208 v, q208 v, fun h => by
    unfold f208 at h; unfold ff208
    simp only [Tr.ok, n_f208_0, n_f208_1, n_f208_2, true_and, and_true, forall_const, implies_true] at h ⊢
    try exact h, qg208 v, qd208 v⟩)
theorem qdd208 (v : V208) : (f208 v).get.2.2 = [] := by
  rw [← qg208, Tr.map_get]; rfl
set_option maxRecDepth 100000
theorem cw198 (v : V198) : fnC d198 ofV198 f198n (A198 v) (H198 v) = some (.need (∀ i, i < v.Q → (fun j => [.int .u64 (v.F j)] : Nat → List SV) i = elC (fun j => [.int .u64 (v.F j)] : Nat → List SV) 0 [.int .u64] i) ((f198n v).map (fixF (H198 v)))) := by kernel_rfl
/-! ### pdqsort of at most twelve -/
structure V189 where
  L : Nat
  a : Int
  b : Int
  c : Int
  Q : Nat
  F : Nat → Int
def A189 (v : V189) : List SV := [.slc 0 1 0 v.L, .int .i64 v.a, .int .i64 v.b, .int .i64 v.c]
def H189 (v : V189) : List (HO th.R) := [.row 22 1 v.Q (fun j => [.int .u64 (v.F j)])]
def toV189 (v : V189) : List (Vl th.R) := [.n v.L, .i v.a, .i v.b, .i v.c, .n v.Q, .c v.F]
def ofV189 : List (Vl th.R) → Option V189
  | [.n L, .i a, .i b, .i c, .n Q, .c F] => some ⟨L, a, b, c, Q, F⟩
  | _ => none
def d189 : Ft := ⟨[.slc0 0 1, .int .i64, .int .i64, .int .i64], [.rowc 22 [.int .u64]]⟩
def pre189 (v : V189) : Prop := v.Q = v.L ∧ v.L < 4611686018427387904 ∧ 0 ≤ v.a ∧ v.a ≤ v.b ∧ v.b ≤ v.L ∧ v.b - v.a ≤ 12
noncomputable def f189 (v : V189) : Tr (Fin th.R) := .need (pre189 v) (.leaf (.tup [], [.row 22 1 v.L (fun j => [.int .u64 (gt (Go.Sort.insertionSort Go.Sort.ltInt (ar v.F v.L) v.a.toNat v.b.toNat) j)])], [0]))
theorem walk189 {v0 : Value} {a b c : Int} {w : World} {Q : Ending → World → Prop} (h12 : wrap64 (b - a) ≤ 12) (h : Calls Try.prog 198 #[v0, .int .i64 a, .int .i64 b] w fun e w' => e = .returned (.tuple #[]) ∧ Q (.returned (.tuple #[])) w') :
    Calls Try.prog 189 #[v0, .int .i64 a, .int .i64 b, .int .i64 c] w Q := by
  go_enter Try.func189, Try.ntmps189
  go_wp2
  refine wp_loop_rounds 1 ?_
  rw [rounds_succ]
  go_wp2_with (go_at_call 198; refine h.mono ?_; rintro e w' ⟨rfl, hq⟩)
  go_end0
  exact hq
theorem s189 : Sound Try.prog th 189 (fnC d189 ofV189 f189) := by
  refine fnC_direct (T := th) d189 A189 H189 toV189 (by kernel_rfl) (fun v => by kernel_rfl) ?_ ?_ (fun v _ => by show 1 ≤ 1; decide) (fun v _ n hn hd => ?_)
  · intro l v h
    unfold ofV189 at h
    split at h
    · cases h; rfl
    · cases h
  · intro v hok K w0 ρ w vargs I hr
    obtain ⟨⟨hQ, hn, a0, hab, hb, h12⟩, _⟩ := hok
    obtain ⟨v0, xs, rfl, hv0, y, ys, rfl, hy, z, zs, rfl, hz, u, us, rfl, hu, hus⟩ := hr
    have hy : y = .int .i64 v.a := hy
    have hz : z = .int .i64 v.b := hz
    have hu : u = .int .i64 v.c := hu
    have hus : us = [] := hus
    subst hy hz hu hus
    have hc := fnC_out s198n (cw198 ⟨v.L, v.a, v.b, v.Q, v.F⟩) (⟨fun i _ => rfl, ⟨hQ, hn, a0, hab, hb⟩, trivial⟩ : _) I (vargs := [v0, .int .i64 v.a, .int .i64 v.b]) ⟨v0, _, rfl, hv0, _, _, rfl, rfl, _, _, rfl, rfl, rfl⟩
    refine walk189 (by unfold wrap64; omega) (hc.mono ?_)
    rintro e w' ⟨ρ', cv, rfl, hp, I', hcv⟩
    have hcv : cv = .tuple #[] := by
      obtain ⟨cs, rfl, hcs⟩ := hcv
      have hcs : cs = [] := hcs
      rw [hcs]
    subst hcv
    exact ⟨rfl, ρ', _, rfl, hp, I', ⟨[], rfl, rfl⟩⟩
  · have hn : n < 1 := hn
    have : n = 0 := by omega
    subst this
    exact absurd List.mem_cons_self hd
noncomputable def niceP7 : List (Nat × CF th.R) := (189, lift (fnC d189 ofV189 f189)) :: nice198n
theorem nokP7 : NiceOk Try.prog th niceP7 := ⟨lift_sound s189, nok198n⟩
end Go.Sx.M


namespace Go.Sx.M
open Go Go.Sx Go.Proofs Go.RowKit
set_option maxRecDepth 100000
def pre208 (v : V208) : Prop := True
theorem n208 (v : V208) (h : pre208 v) : (f208 v).ok ∧ (f208 v).get.1 = .int .i64 (f208_4 v) ∧ HOws (f208 v).get.2.1 [] := by
  refine ⟨⟨?_, trivial⟩, rfl, .refl _⟩
  unfold f208_3 f208_10
  simp only [IntKind.wrap, IntKind.bits, IntKind.signed, Bool.false_and]
  simp only [show ((2:Int) ^ 8) = 256 from rfl]
  simp
  omega
noncomputable def f208n (v : V208) : Tr (Fin th.R) := .need (pre208 v) (.leaf (.int .i64 (f208_4 v), [], []))
theorem s208n : Sound Try.prog th 208 (fnC d208 ofV208 f208n) := fnC_refine s208 fun v h => by
  obtain ⟨hp, _⟩ := h
  obtain ⟨a, b, c⟩ := n208 v hp
  exact ⟨a, b.symm, (qdd208 v).symm, c, by show 0 ≤ 0; decide⟩
noncomputable def nice208n : List (Nat × CF th.R) := (208, lift (fnC d208 ofV208 f208n)) :: niceP7
theorem nok208n : NiceOk Try.prog th nice208n := ⟨lift_sound s208n, nokP7⟩
set_option maxRecDepth 100000
structure V190 where
  x : Int
def A190 (v : V190) : List SV := [.int .u64 v.x]
def H190 (v : V190) : List (HO th.R) := []
def toV190 (v : V190) : List (Vl th.R) := [.i v.x]
def ofV190 : List (Vl th.R) → Option V190
  | [.i x] => some ⟨x⟩
  | _ => none
def d190 : Ft := ⟨[.int .u64], []⟩
noncomputable def f190_0 (v : V190) : (Prop) := pre208 (V208.mk v.x)
noncomputable def f190_1 (v : V190) : (Int) := f208_4 (V208.mk v.x)
noncomputable def ff190 (v : V190) : Tr (Fin th.R) := (Tr.need (f190_0 v) (Tr.leaf (SV.int .i64 (f190_1 v), List.nil, List.nil)))
noncomputable def f190 (v : V190) : Tr (Fin th.R) := (Tr.need (f190_0 v) (Tr.leaf (SV.int .i64 (f190_1 v), List.nil, [])))
noncomputable def C190 : CF th.R := fnC d190 ofV190 (f190 )
theorem q190 (v : V190) : (evFn th Try.prog (auto th Try.prog nice208n [] 20) (autoH [] [] [] [] : Hints th) 190) (A190 v) (H190 v) = some (ff190 v) := by kernel_rfl
theorem qg190 (v : V190) : ((ff190 v).map (setD [])).get = (f190 v).get := by kernel_rfl
theorem qd190 (v : V190) : allD 0 [] (ff190 v) = true := by kernel_rfl
theorem s190 : Sound Try.prog th 190 (C190 ) := fnC_sound (evFn_sound' (T := th) (P := Try.prog) (tbl := (auto th Try.prog nice208n [] 20)) (auto_sound (nice := nice208n) (us := []) nok208n 20) (H := (autoH [] [] [] [] : Hints th)) (k := 190) (fnLoops (LoopsOk_mem (fun _ => rfl) _ fun _ _ _ e => by cases e))) d190 A190 H190 toV190 (by kernel_rfl) (fun v => by kernel_rfl)
  (fun l v h => by
    unfold ofV190 at h
    split at h
    · cases h; rfl
    · cases h)
  [] (fun v => ⟨ff190 v, q190 v, id, qg190 v, qd190 v⟩)
theorem qdd190 (v : V190) : (f190 v).get.2.2 = [] := by
  rw [← qg190, Tr.map_get]; rfl
set_option maxRecDepth 100000
def pre190 (v : V190) : Prop := True
theorem n190 (v : V190) (h : pre190 v) : (f190 v).ok ∧ (f190 v).get.1 = .int .i64 (f208_4 ⟨v.x⟩) ∧ HOws (f190 v).get.2.1 [] := by
  refine ⟨⟨trivial, trivial⟩, rfl, .refl _⟩
noncomputable def f190n (v : V190) : Tr (Fin th.R) := .need (pre190 v) (.leaf (.int .i64 (f208_4 ⟨v.x⟩), [], []))
theorem s190n : Sound Try.prog th 190 (fnC d190 ofV190 f190n) := fnC_refine s190 fun v h => by
  obtain ⟨hp, _⟩ := h
  obtain ⟨a, b, c⟩ := n190 v hp
  exact ⟨a, b.symm, (qdd190 v).symm, c, by show 0 ≤ 0; decide⟩
noncomputable def nice190n : List (Nat × CF th.R) := (190, lift (fnC d190 ofV190 f190n)) :: nice208n
theorem nok190n : NiceOk Try.prog th nice190n := ⟨lift_sound s190n, nok208n⟩
set_option maxRecDepth 100000
structure V158 where
  L : Nat
  Q : Nat
  F : Nat → Int
def A158 (v : V158) : List SV := [.slc 0 1 0 v.L]
def H158 (v : V158) : List (HO th.R) := [.row 22 1 v.Q (fun j => [.int .u64 (v.F j)])]
def toV158 (v : V158) : List (Vl th.R) := [.n v.L, .n v.Q, .c v.F]
def ofV158 : List (Vl th.R) → Option V158
  | [.n L, .n Q, .c F] => some ⟨L, Q, F⟩
  | _ => none
def d158 : Ft := ⟨[.slc0 0 1], [.rowc 22 [.int .u64]]⟩
noncomputable def f158_0 (v : V158) : (Prop) := pre190 (V190.mk (IntKind.u64.wrap (↑v.L:Int)))
noncomputable def f158_1 (v : V158) : (Prop) := ∀ (i:Nat), scpL (0:Nat) ((fun (j:Nat) => [SV.int IntKind.u64 (v.F j)]) i) = true
noncomputable def f158_2 (v : V158) : (Prop) := ∀ (i:Nat), i < v.Q → (fun (j:Nat) => [SV.int IntKind.u64 (v.F j)]) i = elC (fun (j:Nat) => [SV.int IntKind.u64 (v.F j)]) (0:Nat) [Ck.int IntKind.u64] i
noncomputable def f158_3 (v : V158) : (Prop) := pre189 (V189.mk v.L (0:Int) (↑v.L:Int) (f208_4 (V208.mk (IntKind.u64.wrap (↑v.L:Int)))) v.Q v.F)
noncomputable def f158_4 (v : V158) : (Prop) := ∀ (i:Nat), scpL (0:Nat) ((fun (j:Nat) => [SV.int IntKind.u64 (gt (Go.Sort.insertionSort Go.Sort.ltInt (ar v.F v.L) (Int.toNat (0:Int)) (↑v.L:Int).toNat) j)]) i) = true
noncomputable def f158_5 (v : V158) : (Prop) := ∀ (i:Nat), scpL (1:Nat) ((fun (j:Nat) => [SV.int IntKind.u64 (gt (Go.Sort.insertionSort Go.Sort.ltInt (ar v.F v.L) (Int.toNat (0:Int)) (↑v.L:Int).toNat) j)]) i) = true
noncomputable def f158_6 (v : V158) : Nat → (Int) := fun (j:Nat) => gt (Go.Sort.insertionSort Go.Sort.ltInt (ar v.F v.L) (Int.toNat (0:Int)) (↑v.L:Int).toNat) j
theorem n_f158_1 (v : V158) : f158_1 v := by
  unfold f158_1
  (repeat' first | intro _ | apply And.intro) <;> first | rfl | exact absurd (by assumption) (Nat.not_lt_zero _) | exact scpL_rowSet (by rfl) (by rfl) | exact scpL_rowEl (by kernel_rfl) _ | omega | decide
theorem n_f158_2 (v : V158) : f158_2 v := by
  unfold f158_2
  (repeat' first | intro _ | apply And.intro) <;> first | rfl | exact absurd (by assumption) (Nat.not_lt_zero _) | exact scpL_rowSet (by rfl) (by rfl) | exact scpL_rowEl (by kernel_rfl) _ | omega | decide
theorem n_f158_4 (v : V158) : f158_4 v := by
  unfold f158_4
  (repeat' first | intro _ | apply And.intro) <;> first | rfl | exact absurd (by assumption) (Nat.not_lt_zero _) | exact scpL_rowSet (by rfl) (by rfl) | exact scpL_rowEl (by kernel_rfl) _ | omega | decide
theorem n_f158_5 (v : V158) : f158_5 v := by
  unfold f158_5
  (repeat' first | intro _ | apply And.intro) <;> first | rfl | exact absurd (by assumption) (Nat.not_lt_zero _) | exact scpL_rowSet (by rfl) (by rfl) | exact scpL_rowEl (by kernel_rfl) _ | omega | decide
noncomputable def ff158 (v : V158) : Tr (Fin th.R) := (Tr.need (f158_0 v) (Tr.need (f158_1 v) (Tr.need (f158_2 v) (Tr.need (f158_3 v) (Tr.need (f158_4 v) (Tr.need (f158_5 v) (Tr.leaf (SV.tup [], [(HO.row (22:Nat) (1:Nat) (v.L) (fun j => [SV.int .u64 (f158_6 v j)]))], [(0:Nat)]))))))))
noncomputable def f158 (v : V158) : Tr (Fin th.R) := (Tr.need (f158_0 v) (Tr.need (f158_3 v) (Tr.leaf (SV.tup [], [(HO.row (22:Nat) (1:Nat) (v.L) (fun j => [SV.int .u64 (f158_6 v j)]))], [0]))))
noncomputable def C158 : CF th.R := fnC d158 ofV158 (f158 )
theorem q158 (v : V158) : (evFn th Try.prog (auto th Try.prog nice190n [] 20) (autoH [] [] [] [] : Hints th) 158) (A158 v) (H158 v) = some (ff158 v) := by kernel_rfl
theorem qg158 (v : V158) : ((ff158 v).map (setD [0])).get = (f158 v).get := by kernel_rfl
theorem qd158 (v : V158) : allD 1 [0] (ff158 v) = true := by kernel_rfl
theorem s158 : Sound Try.prog th 158 (C158 ) := fnC_sound (evFn_sound' (T := th) (P := Try.prog) (tbl := (auto th Try.prog nice190n [] 20)) (auto_sound (nice := nice190n) (us := []) nok190n 20) (H := (autoH [] [] [] [] : Hints th)) (k := 158) (fnLoops (LoopsOk_mem (fun _ => rfl) _ fun _ _ _ e => by cases e))) d158 A158 H158 toV158 (by kernel_rfl) (fun v => by kernel_rfl)
  (fun l v h => by
    unfold ofV158 at h
    split at h
    · cases h; rfl
    · cases h)
  [0] (fun v => ⟨ff158 v, q158 v, fun h => by
    unfold f158 at h; unfold ff158
    simp only [Tr.ok, n_f158_1, n_f158_2, n_f158_4, n_f158_5, true_and, and_true, forall_const, implies_true] at h ⊢
    try exact h, qg158 v, qd158 v⟩)
theorem qdd158 (v : V158) : (f158 v).get.2.2 = [0] := by
  rw [← qg158, Tr.map_get]; rfl
set_option maxRecDepth 100000
def srtI (l : List Int) : List Int := l.mergeSort (fun x y => decide (x ≤ y))
theorem ins_srt (F : Nat → Int) (n j:Nat) : gt (Go.Sort.insertionSort Go.Sort.ltInt (ar F n) 0 n) j = (srtI (ls F n)).getD j 0 := by
  have hsz := ar_size F n
  obtain ⟨p1, p2⟩ := Go.Sort.insertionSort_holds Go.Sort.swo_ltInt (ar F n) 0 n (Nat.zero_le _) (by rw [hsz]; exact Nat.le_refl _)
  have hu := Go.Sort.sorted_unique_holds Go.Sort.swo_ltInt (fun x y h1 h2 => by
    simp only [Go.Sort.ltInt, decide_eq_false_iff_not] at h1 h2
    omega) (ar F n) _ (by rw [hsz]; exact p1) (by rw [hsz]; exact p2)
  have e1 : (ar F n).toList = ls F n := by simp [ar, ls]
  have e2 : (fun x y => !Go.Sort.ltInt y x) = (fun x y : Int => decide (x ≤ y)) := by
    funext x y
    simp only [Go.Sort.ltInt]
    by_cases h : y < x
    · rw [decide_eq_true h, decide_eq_false (by omega)]; rfl
    · rw [decide_eq_false h, decide_eq_true (by omega)]; rfl
  rw [e1, e2] at hu
  unfold gt srtI
  rw [← hu]
  simp [List.getD, Array.getElem!_eq_getD, Array.getD_eq_getD_getElem?]
def pre158 (v : V158) : Prop := v.Q = v.L ∧ v.L ≤ 12
theorem n158 (v : V158) (h : pre158 v) : (f158 v).ok ∧ (f158 v).get.1 = .tup [] ∧ HOws (f158 v).get.2.1 [HO.row 22 1 v.L (fun j => [.int .u64 ((srtI (ls v.F v.L)).getD j 0)])] := by
  obtain ⟨hQ, hL⟩ := h
  refine ⟨⟨trivial, ⟨hQ, by show v.L < 4611686018427387904; omega, Int.le_refl _, by show (0:Int) ≤ v.L; omega, Int.le_refl _, by show (v.L:Int) - 0 ≤ 12; omega⟩, trivial⟩, rfl, ?_⟩
  simp only [f158, Tr.get, f158_6]
  exact .cons (.row fun j hj => by rw [show (0:Int).toNat = 0 from rfl, show ((v.L:Nat):Int).toNat = v.L by omega, ins_srt]) .nil
noncomputable def f158n (v : V158) : Tr (Fin th.R) := .need (pre158 v) (.leaf (.tup [], [.row 22 1 v.L (fun j => [.int .u64 ((srtI (ls v.F v.L)).getD j 0)])], [0]))
theorem s158n : Sound Try.prog th 158 (fnC d158 ofV158 f158n) := fnC_refine s158 fun v h => by
  obtain ⟨hp, _⟩ := h
  obtain ⟨a, b, c⟩ := n158 v hp
  exact ⟨a, b.symm, (qdd158 v).symm, c, by show 1 ≤ 1; decide⟩
noncomputable def nice158n : List (Nat × CF th.R) := (158, lift (fnC d158 ofV158 f158n)) :: nice190n
theorem nok158n : NiceOk Try.prog th nice158n := ⟨lift_sound s158n, nok190n⟩
end Go.Sx.M

namespace Go.Sx.M
open Go Go.Sx Go.Proofs Go.RowKit Go.Maps
set_option maxRecDepth 100000
/-! ### Where something isn't 0: what has been met -/
def pgF (M : Mem) (left : Lit → Bool) (p:Nat) : Bool := !left (.int .u64 (p:Nat)) && decide (0 < cntW M.W (p:Nat))
def pgl (M : Mem) (left : Lit → Bool) : List Int := ((List.range (pagN M)).filter (pgF M left)).map fun (p:Nat) => (p:Int) * 4096
theorem pgl_end {M : Mem} {left : Lit → Bool} (h : ∀ kl, left kl = false) : pgl M left = pgs M := by
  unfold pgl pgs pgN
  congr 1
  apply List.filter_congr
  intro p _
  unfold pgF
  rw [h]; rfl
theorem pgl_start {M : Mem} {b mb : Nat} {w : World} {D : DataW Unit} {S : Int → Option Nat} (h : MemAt Try.prog 187 193 22 M b w mb D S) : pgl M (Maps.has D) = [] := by
  unfold pgl
  rw [filter_none fun p _ => ?_]
  · rfl
  · unfold pgF
    cases hs : S (p:Nat) with
    | some s => rw [(h.yes _ s hs).1]; rfl
    | none =>
      rw [cntW_zero fun a ha => h.word (by rw [ha]; exact hs)]
      cases Maps.has D (.int .u64 (p:Nat)) <;> rfl
theorem pgF_other {M : Mem} {left : Lit → Bool} {n i : Nat} (hi : i ≠ n) : pgF M (fun z => left z && !z.sameKey (.int .u64 (n:Nat))) i = pgF M left i := by
  have : (Lit.int .u64 (i:Nat)).sameKey (.int .u64 (n:Nat)) = false := by
    simp [Lit.sameKey]
    omega
  unfold pgF
  show (!(left (.int .u64 (i:Nat)) && !(Lit.int .u64 (i:Nat)).sameKey (.int .u64 (n:Nat))) && _) = _
  rw [this]
  simp
theorem pgl_skip {M : Mem} {left : Lit → Bool} {x : Int} (h0 : 0 ≤ x) (hc : cntW M.W x = 0) : pgl M (fun z => left z && !z.sameKey (.int .u64 x)) = pgl M left := by
  obtain ⟨n, rfl⟩ : ∃ n : Nat, x = n := ⟨x.toNat, by omega⟩
  unfold pgl
  congr 1
  apply List.filter_congr
  intro i _
  by_cases hi : i = n
  · subst hi
    unfold pgF
    rw [hc]
    simp
  · exact pgF_other hi
theorem pgl_more {M : Mem} {left : Lit → Bool} {x : Int} {ss : List Int} (hl : left (.int .u64 x) = true) (h0 : 0 ≤ x) (h1 : x * 4096 < M.size) (hz : M.size % 4096 = 0) (hc : 0 < cntW M.W x) (hp : ss.Perm (pgl M left)) : (ss ++ [x * 4096]).Perm (pgl M (fun z => left z && !z.sameKey (.int .u64 x))) := by
  obtain ⟨n, rfl⟩ : ∃ n : Nat, x = n := ⟨x.toNat, by omega⟩
  have hf : pgF M left n = false := by unfold pgF; rw [hl]; rfl
  have hg : pgF M (fun z => left z && !z.sameKey (.int .u64 (n:Nat))) n = true := by
    have : (Lit.int .u64 (n:Nat)).sameKey (.int .u64 (n:Nat)) = true := by simp [Lit.sameKey]
    unfold pgF
    show (!(left (.int .u64 (n:Nat)) && !(Lit.int .u64 (n:Nat)).sameKey (.int .u64 (n:Nat))) && _) = true
    rw [this, decide_eq_true hc]
    simp
  have := filter_one (n := pagN M) (x := n) (by unfold pagN; omega) (fun i hi => pgF_other hi) hf hg
  have h2 := this.map fun (p:Nat) => (p:Int) * 4096
  rw [List.map_append] at h2
  exact (hp.append_right _).trans h2.symm
theorem pgl_len (M : Mem) (hM : MemOk M) (left : Lit → Bool) : (pgl M left).length ≤ 1048576 := by
  unfold pgl
  rw [List.length_map]
  have := List.length_filter_le (pgF M left) (List.range (pagN M))
  rw [List.length_range] at this
  have h2 : pagN M ≤ 1048576 := by have := hM.hi; unfold pagN; omega
  omega
theorem range_lt : ∀ n : Nat, (List.range n).Pairwise (· < ·) := fun n => List.pairwise_lt_range
theorem srt_pgs {M : Mem} {l : List Int} (h : l.Perm (pgs M)) : srtI l = pgs M := by
  have hp : (pgs M).Pairwise (fun x y => decide (x ≤ y) = true) := by
    unfold pgs pgN
    rw [List.pairwise_map]
    refine ((range_lt _).filter _).imp ?_
    intro a b hab
    exact decide_eq_true (by omega)
  unfold srtI
  refine List.Perm.eq_of_pairwise (le := fun x y => decide (x ≤ y) = true) (fun a b _ _ h1 h2 => ?_) (List.pairwise_mergeSort (fun a b c h1 h2 => ?_) (fun a b => ?_) l) hp ((List.mergeSort_perm _ _).trans h)
  · have h1 := of_decide_eq_true h1
    have h2 := of_decide_eq_true h2
    omega
  · have h1 := of_decide_eq_true h1
    have h2 := of_decide_eq_true h2
    exact decide_eq_true (by omega)
  · rcases Int.le_total a b with h | h
    · rw [decide_eq_true h]; rfl
    · rw [decide_eq_true h]; simp
/-! ### One row in a world -/
theorem Inv.rowOf {K : Nat → Prop} {w0 w : World} {ρ : Env} {h : List (HO th.R)} (I : Inv th K w0 ρ h w) {m n : Nat} {el : Nat → Int} (hm : h[m]? = some (.row 22 1 n (fun j => [.int .u64 (el j)]))) {l : Loc} (hl : ρ[m]? = some l) :
    Inv th K w0 [l] [.row 22 1 n (fun j => [.int .u64 (el j)])] w := by
  obtain ⟨F, h1, h2, h3⟩ := I.foot
  refine ⟨rfl, I.kept, fun k i => k = 0 ∧ F m i, fun k o l' hk hl' => ?_, fun a b i ha hb => ha.1.trans hb.1.symm, fun k i hi => h3 m i hi.2⟩
  cases k with
  | succ k => simp at hk
  | zero =>
    have hk : HO.row 22 1 n (fun j => [.int .u64 (el j)]) = o := by simpa using hk
    have hl' : l = l' := by simpa using hl'
    subst hk hl'
    have := h1 m _ l hm hl
    rcases this with q | ⟨q1, q2, q3, q4, cs, q5, q6, q7, q8⟩
    · exact .inl q
    · exact .inr ⟨q1, q2, ⟨rfl, q3⟩, q4, cs, q5, q6, q7, q8⟩
theorem Inv.row0 (w : World) (K : Nat → Prop) (hK : ∀ i, K i → i < w.heap.size) : Inv th K w [⟨0, 0, true, 0⟩] [.row 22 1 0 (fun j => [.int .u64 (([] : List Int).getD j 0)])] w := by
  refine ⟨rfl, ⟨rfl, rfl, rfl, Nat.le_refl _, hK, fun _ _ => rfl, fun _ => rfl⟩, fun _ _ => False, fun k o l hk hl => ?_, fun a b i ha => ha.elim, fun k i hi => hi.elim⟩
  cases k with
  | succ k => simp at hk
  | zero =>
    have hk : HO.row 22 1 0 (fun j => [.int .u64 (([] : List Int).getD j 0)]) = o := by simpa using hk
    have hl : (⟨0, 0, true, 0⟩ : Loc) = l := by simpa using hl
    subst hk hl
    exact .inl ⟨rfl, rfl⟩
theorem keptTurns {K : Nat → Prop} {w0 w : World} (h : Kept K w0 w) : Turns (fun i => ¬ K i) w0 w :=
  ⟨h.os, h.tape, h.output, h.size, fun i _ hk => h.rest i (Classical.not_not.1 hk), h.frz⟩
theorem one_row (ρ : Env) (w : World) (x:Int) : OHolds th ρ ⟨w.heap.size, 1, false, 0⟩ (fun i => i = w.heap.size) (w.alloc (.cells #[.int .u64 x] 22)) (.row 22 1 1 (fun _ => [.int .u64 x])) := by
  refine .inr ⟨rfl, rfl, rfl, Nat.le_refl _, [.int .u64 x], (MapKept.heap_alloc _ _).1, rfl, fun v hv => ?_, fun i hi => ?_⟩
  · have := List.mem_singleton.1 hv
    subst this
    rfl
  · have : i = 0 := by omega
    subst this
    exact ⟨_, _, rfl, rfl, rfl⟩
theorem app_run {K : Nat → Prop} {w : World} {l : Loc} {n : Nat} {F : Nat → Int} {vo : Value} (I : Inv th K w [l] [.row 22 1 n (fun j => [.int .u64 (F j)])] w) (hv : Rel [l] (.slc 0 1 0 n) vo) (hn : n ≤ 1048576) (x:Int) :
    ∃ w' l' v', (Builtin.append_ #[25, 25] 25 #[vo, .slice (some ⟨w.heap.size, 0, none⟩) 1 1]).run Try.prog (w.alloc (.cells #[.int .u64 x] 22)) = .ok v' w' ∧ Inv th K w [l'] [.row 22 1 (n + 1) (fun j => [.int .u64 (cnd (Nat.blt j n) (F j) x)])] w' ∧ Rel [l'] (.slc 0 1 0 (n + 1)) v' := by
  have I1 := I.news (w' := w.alloc (.cells #[.int .u64 x] 22)) ⟨w.heap.size, 1, false, 0⟩ (.row 22 1 1 (fun _ => [.int .u64 x])) (fun i => i = w.heap.size) (Turns.alloc _ _ _ _) (fun i hi => ⟨by omega, by show i < (Array.push _ _).size; rw [Array.size_push]; omega⟩)
    (one_row _ _ _)
  have hx : Rel ([l] ++ [⟨w.heap.size, 1, false, 0⟩]) (.slc 0 1 0 n) vo := Rel.mono (Pre.snoc _ _) _ _ hv
  have hy : Rel ([l] ++ [⟨w.heap.size, 1, false, 0⟩]) (.slc 1 1 0 1) (.slice (some ⟨w.heap.size, 0, none⟩) 1 1) := ⟨_, rfl, .inr ⟨rfl, Nat.le_refl _, _, rfl, fun _ => by simp⟩⟩
  have he : evAppend (R := th.R) Try.prog ([.row 22 1 n (fun j => [.int .u64 (F j)])] ++ [.row 22 1 1 (fun _ => [.int .u64 x])]) 25 25 (.slc 0 1 0 n) (.slc 1 1 0 1) =
      some (.slc 2 1 0 (n + 1), [.gone, .row 22 1 1 (fun _ => [.int .u64 x])] ++ [.row 22 1 (n + 1) fun i => rowSet (Nat.blt i n) [.int .u64 (F i)] [.int .u64 x]], some (0 = 0 ∧ n ≤ n ∧ 0 + 1 ≤ 1 ∧ (n + 1) * 4096 ≤ 140737488355328 ∧ n + 1 ≤ 9223372036854775807)) := by kernel_rfl
  obtain ⟨w', ρ', v', hrun, hp, I', hr⟩ := evAppend_sound (ty := 25) he (by show _ ∧ _; exact ⟨rfl, Nat.le_refl _, Nat.le_refl _, by omega, by omega⟩) I1 hx hy
  have hel : (fun i => rowSet (Nat.blt i n) [SV.int .u64 (F i)] [SV.int .u64 x]) = fun j => [SV.int .u64 (cnd (Nat.blt j n) (F j) x)] := by
    funext j
    rw [rowSet_eq]
    cases Nat.blt j n <;> rfl
  rw [hel] at I'
  obtain ⟨l', hl', hv'⟩ := hr
  exact ⟨w', l', v', hrun, Inv.rowOf I' (m := 2) rfl hl', l', rfl, hv'⟩
end Go.Sx.M

namespace Go.Sx.M
open Go Go.Sx Go.Proofs Go.RowKit Go.Maps
set_option maxRecDepth 100000
theorem cw158 (v : V158) : fnC d158 ofV158 f158n (A158 v) (H158 v) = some (.need (∀ i, i < v.Q → (fun j => [.int .u64 (v.F j)] : Nat → List SV) i = elC (fun j => [.int .u64 (v.F j)] : Nat → List SV) 0 [.int .u64] i) ((f158n v).map (fixF (H158 v)))) := by kernel_rfl
theorem wpList_append_eq {P : Program} {w w' : World} {ops : Array Oper} {rest : List Oper} {d : Nat} {pos : String} {after : Array Edge} {x y : Operand} {a : Act} {Q : Exit → Act → World → Prop} {vo vy v' : Value}
    (hx : a.eval x = vo) (hy : a.eval y = vy) (hrun : (Builtin.append_ #[25, 25] 25 #[vo, vy]).run P w = .ok v' w') (hK : wpList P ops Q rest (a.put (some d) v') w') :
    wpList P ops Q ({ dst := some d, op := Op.call { callee := Callee.builtin Builtin.append, args := #[x, y], argTypes := #[25, 25] }, type := 25, pos := pos, after := after, guard := none } :: rest) a w := by
  refine wpList_plain rfl fun K' hK' => ?_
  unfold Oper.wp
  simp [execOp, resolve, invoke, builtin, hx, hy, hrun, Result.andThen]
  exact hK' _ _ hK
theorem sort_ok {w : World} {l : Loc} {K : Nat → Prop} {n : Nat} {F : Nat → Int} {vo : Value} (I : Inv th K w [l] [.row 22 1 n (fun j => [.int .u64 (F j)])] w) (hv : Rel [l] (.slc 0 1 0 n) vo) (hn : n ≤ 12) :
    Calls Try.prog 158 #[vo] w fun e w' => e = .returned (.tuple #[]) ∧ Inv th K w [l] [.row 22 1 n (fun j => [.int .u64 ((srtI (ls F n)).getD j 0)])] w' := by
  have hc := fnC_out s158n (cw158 ⟨n, n, F⟩) (⟨fun i _ => rfl, ⟨rfl, hn⟩, trivial⟩ : _) I (vargs := [vo]) ⟨vo, _, rfl, hv, rfl⟩
  refine hc.mono ?_
  rintro e w' ⟨ρ', cv, rfl, ⟨ex, rfl⟩, I', hcv⟩
  have hcv : cv = .tuple #[] := by
    obtain ⟨cs, rfl, hcs⟩ := hcv
    have hcs : cs = [] := hcs
    rw [hcs]
  exact ⟨by rw [hcv], Inv.rowOf I' (m := 0) rfl rfl⟩
theorem pages_ok {M : Mem} {b mb : Nat} {D : DataW Unit} {S : Int → Option Nat} (w : World) (h : MemAt Try.prog 187 193 22 M b w mb D S) (hlen : (pgs M).length ≤ 12) :
    Calls Try.prog 147 #[.pointer (some ⟨b, 0, none⟩)] w fun e w' => ∃ v l, e = .returned v ∧ Turns (fun _ => False) w w' ∧ Inv th (fun i => i ≤ w.heap.size) w' [l] [.row 22 1 (pgs M).length (fun j => [.int .u64 ((pgs M).getD j 0)])] w' ∧ Rel [l] (.slc 0 1 0 (pgs M).length) v := by
  have c1 : w.cell? ⟨b, 1, none⟩ = some (.map (some mb)) := by simp [World.cell?, h.cells]
  have hown := h.map
  generalize hnn : Maps.size D = nn at hown
  go_enter Try.func147, Try.ntmps147
  go_wp2_with (first
    | (at_range; refine wpList_range_own _ rfl _ 185 rfl 22 190 law22 Try.underlying185 ptrElem mb nn D rfl hown ?_; intro w0 hrg0 hg0 hs0)
    | go_in)
  go_frame
  have ht0 := Turns.range hrg0 hg0 hs0
  go_loopw [3, 4, 5] (fun vo _ _ wr => ∃ (left : Lit → Bool) (cnt:Nat) (ss : List Int) (l : Loc), wr.ranges Try.prog 22 ptrElem mb w.heap.size nn D left cnt ∧ Inv th (fun i => i ≤ w.heap.size) wr [l] [.row 22 1 ss.length (fun j => [.int .u64 (ss.getD j 0)])] wr ∧ Rel [l] (.slc 0 1 0 ss.length) vo ∧ ss.Perm (pgl M left) ∧ Turns (fun _ => False) w wr) (fun _ _ _ wr => wr.rangeLeft mb w.heap.size)
  case atStart => exact ⟨_, _, [], _, hrg0, Inv.row0 w0 _ (fun i hi => by omega), ⟨_, rfl, .inl ⟨rfl, rfl, rfl, rfl⟩⟩, by rw [pgl_start h], ht0⟩
  case round =>
    obtain ⟨left, cnt, ss, l, hrg, hI, hv, hperm, ht⟩ := hrel
    go_wp2_with (first
      | (at_next; refine wpList_next_ranges _ rfl _ rfl 22 law22 ptrElem (Value.int .u64) ptrV key22_inv ptrV_inv mb w.heap.size nn D left cnt rfl hrg ?_ ?_)
      | go_in)
    · intro hc0 hl0
      rw [pgl_end hl0] at hperm
      have hss : ss.length = (pgs M).length := hperm.length_eq
      have hsort := sort_ok hI hv (by omega)
      have hls : ls (fun j => ss.getD j 0) ss.length = ss := by
        unfold ls
        apply List.ext_getElem
        · simp
        · intro i h1 h2
          simp [List.getD, h2]
      rw [hls, srt_pgs hperm, hss] at hsort
      rw [hss] at hv
      go_wp2_with (first | (go_at_call 158; refine hsort.mono ?_; rintro e w3 ⟨rfl, hI3⟩) | go_in)
      go_ret
      have ht3 : Turns (fun _ => False) w w3 := by
        have h1 := keptTurns hI3.kept
        have := (ht.mono (G := fun i => ¬ i ≤ w.heap.size) (fun _ _ h => h.elim)).trans h1
        exact this.mono fun i hi e => by omega
      exact ⟨_, l, rfl, ht3, hI3.rebase, hv⟩
    · intro x c kl yd yp w2 cnt2 hkey hlk hv' hat hrg2 hlt hg2 hs2 hen
      obtain ⟨rfl, s, hs, rfl, x0, x1⟩ := memEntry h hkey hv' hat
      have hstep := Turns.step hrg hrg2 hg2 hs2
      have ht2 : Turns (fun _ => False) w w2 := by
        have := (ht.mono (G := fun i => i = w.heap.size) (fun _ _ h => h.elim)).trans hstep
        exact this.mono fun i hi e => by omega
      have hI2 := hI.turned hstep (fun i hi => by show i ≤ w.heap.size; omega)
      have hslt : s < w.heap.size := memLt h (.inr (.inr ⟨x, hs⟩))
      have hd2 : w2.heap[s]? = some (.cells (sheet M.W x).toArray 193 (0, 0)) := (ht2.rest s hslt id).trans (h.data x s hs)
      have hcnt := count_ok w2 hd2
      have hss : ss.length ≤ 1048576 := by rw [hperm.length_eq]; exact pgl_len M h.ok left
      simp only [ptrV, Option.map] at hen
      clear hs2
      have hle := cntW_le M.W x
      have hskip := pgl_skip (M := M) (left := left) (x := x) x0
      have hmore := fun hc => pgl_more (M := M) (left := left) (x := x) hlk x0 x1 h.ok.al hc hperm
      generalize hcc : cntW M.W x = cc at hcnt hle hskip hmore
      obtain ⟨w4, l4, v4, hrun, hI4, hv4⟩ := app_run hI2 hv hss (x * 4096)
      have hmlt : mb < w.heap.size := memLt h (.inr (.inl rfl))
      have hx4 : IntKind.u64.wrap (x * 4096) = x * 4096 := wrap_u64_id (by omega) (by have := h.ok.hi; omega)
      go_wp2_with (first
        | (go_at_call 149; refine hcnt.mono ?_; rintro e w3 ⟨rfl, rfl⟩)
        | (refine wpList_append_eq (v' := v4) (w' := w4) ?_ ?_ hrun ?_; rfl; rfl)
        | go_in)
      · have hk4 := keptTurns hI4.kept
        have ht4 : Turns (fun _ => False) w w4 := by
          have := (ht2.mono (G := fun i => ¬ i ≤ w.heap.size) (fun _ _ h => h.elim)).trans hk4
          exact this.mono fun i hi e => by omega
        have hrg4 := rangesKeep hrg2 (hI4.kept.rest mb (by show mb ≤ w.heap.size; omega)) (hI4.kept.rest w.heap.size (Nat.le_refl _))
        have hpos : 0 < cc := by omega
        have hI5 : Inv th (fun i => i ≤ w.heap.size) w4 [l4] [.row 22 1 (ss ++ [x * 4096]).length (fun j => [.int .u64 ((ss ++ [x * 4096]).getD j 0)])] w4 := by
          have hle2 : (ss ++ [x * 4096]).length = ss.length + 1 := by simp
          rw [hle2]
          refine Inv.weak hI4.rebase (.cons (.row fun j hj => ?_) .nil)
          by_cases hjn : j < ss.length
          · have : Nat.blt j ss.length = true := by rw [Nat.blt_eq]; exact hjn
            rw [this]
            show [SV.int .u64 (ss.getD j 0)] = [SV.int .u64 ((ss ++ [x * 4096]).getD j 0)]
            simp only [List.getD, List.getElem?_append_left hjn]
          · have e1 : j = ss.length := by omega
            subst e1
            have : Nat.blt ss.length ss.length = false := by
              cases hb : Nat.blt ss.length ss.length with
              | false => rfl
              | true => rw [Nat.blt_eq] at hb; omega
            rw [this]
            simp [cnd, List.getD]
        have hv5 : Rel [l4] (.slc 0 1 0 (ss ++ [x * 4096]).length) v4 := by
          have hle2 : (ss ++ [x * 4096]).length = ss.length + 1 := by simp
          rw [hle2]; exact hv4
        go_roundw
        case rel => exact ⟨_, cnt2, ss ++ [x * 4096], l4, hrg4, hI5, hv5, hmore hpos, ht4⟩
        case measure => rw [hrg4.left_eq, hrg.left_eq]; exact hlt
      · have hz : cc = 0 := by omega
        go_roundw
        case rel => exact ⟨_, cnt2, ss, l, hrg2, hI2, hv, by rw [hskip hz]; exact hperm, ht2⟩
        case measure => rw [hrg2.left_eq, hrg.left_eq]; exact hlt
end Go.Sx.M

namespace Go.Sx.M
open Go Go.Sx Go.Proofs Go.RowKit
set_option maxRecDepth 100000
structure V150 where
  L : Nat
  N : Nat
  Q : Nat
  F : Nat → Int
  R : Nat
  G : Nat → Int
def A150 (v : V150) : List SV := [.slc 0 1 0 v.L, .slc 1 1 0 v.N]
def H150 (v : V150) : List (HO th.R) := [.row 22 1 v.Q (fun j => [.int .u64 (v.F j)]), .row 22 1 v.R (fun j => [.int .u64 (v.G j)])]
def toV150 (v : V150) : List (Vl th.R) := [.n v.L, .n v.N, .n v.Q, .c v.F, .n v.R, .c v.G]
def ofV150 : List (Vl th.R) → Option V150
  | [.n L, .n N, .n Q, .c F, .n R, .c G] => some ⟨L, N, Q, F, R, G⟩
  | _ => none
def d150 : Ft := ⟨[.slc0 0 1, .slc0 1 1], [.rowc 22 [.int .u64], .rowc 22 [.int .u64]]⟩
structure P150_0 where
  n0 : Nat
  n1 : Nat
  b4 : Bool
  x12 : Int
  N0 : Nat
  F0_0 : Nat → Int
  N1 : Nat
  F1_0 : Nat → Int
structure S150_0 where
  x13 : Int
noncomputable instance : Inhabited S150_0 := ⟨⟨0⟩⟩
def I150_0 (p : P150_0) (s : S150_0) : St th.R := ⟨[some (.slc 0 1 0 p.n0), some (.slc 1 1 0 p.n1), none, none, some (.bool p.b4), none, none, none, none, none, none, none, some (.int .i64 p.x12), some (.int .i64 s.x13), none, none, none, none, none, none, none, none, none, none, none, none], [.row 22 1 p.N0 (fun j => [.int .u64 (p.F0_0 j)]), .row 22 1 p.N1 (fun j => [.int .u64 (p.F1_0 j)])], [], []⟩
def d150_0 : Lp := ⟨⟨26, [(0, .slc0 0 1), (1, .slc0 1 1), (4, .bool), (12, .int .i64), (13, .int .i64)], [.rowc 22 [.int .u64], .rowc 22 [.int .u64]]⟩, [], 2, [], [4], []⟩
def toV150_0 (p : P150_0) (s : S150_0) : List (Vl th.R) := [.n p.n0, .n p.n1, .b p.b4, .i p.x12, .i s.x13, .n p.N0, .c p.F0_0, .n p.N1, .c p.F1_0]
def ofV150_0 : List (Vl th.R) → Option (P150_0 × S150_0)
  | [.n n0, .n n1, .b b4, .i x12, .i x13, .n N0, .c F0_0, .n N1, .c F1_0] => some (⟨n0, n1, b4, x12, N0, F0_0, N1, F1_0⟩, ⟨x13⟩)
  | _ => none
noncomputable def e150_0_6 (p : P150_0) (s : S150_0) : (Nat) := (0:Nat) + s.x13.toNat
noncomputable def e150_0_0 (p : P150_0) (s : S150_0) : (Bool) := cnd (decide (s.x13 < p.x12)) false true
noncomputable def e150_0_1 (p : P150_0) (s : S150_0) : (Prop) := (∀ (i:Nat), scpL (0:Nat) ((fun (j:Nat) => [SV.int IntKind.u64 (p.F0_0 j)]) i) = true) ∧ ∀ (i:Nat), scpL (0:Nat) ((fun (j:Nat) => [SV.int IntKind.u64 (p.F1_0 j)]) i) = true
noncomputable def e150_0_2 (p : P150_0) (s : S150_0) : (Prop) := (true = true → (0:Int) ≤ s.x13 ∧ s.x13 < (↑p.n0:Int)) ∧ (true = true → e150_0_6 p s < p.N0) ∧ (true = true → (0:Int) ≤ s.x13 ∧ s.x13 < (↑p.n1:Int)) ∧ (true = true → e150_0_6 p s < p.N1)
noncomputable def e150_0_3 (p : P150_0) (s : S150_0) : (Bool) := p.F0_0 (e150_0_6 p s) != p.F1_0 (e150_0_6 p s)
noncomputable def e150_0_4 (p : P150_0) (s : S150_0) : (Prop) := ((∀ (i:Nat), scpL (0:Nat) ((fun (j:Nat) => [SV.int IntKind.u64 (p.F0_0 j)]) i) = true) ∧ ∀ (i:Nat), scpL (0:Nat) ((fun (j:Nat) => [SV.int IntKind.u64 (p.F1_0 j)]) i) = true) ∧ (∀ (i:Nat), i < p.N0 → (fun (j:Nat) => [SV.int IntKind.u64 (p.F0_0 j)]) i = elC (fun (j:Nat) => [SV.int IntKind.u64 (p.F0_0 j)]) (0:Nat) [Ck.int IntKind.u64] i) ∧ ∀ (i:Nat), i < p.N1 → (fun (j:Nat) => [SV.int IntKind.u64 (p.F1_0 j)]) i = elC (fun (j:Nat) => [SV.int IntKind.u64 (p.F1_0 j)]) (0:Nat) [Ck.int IntKind.u64] i
noncomputable def e150_0_5 (p : P150_0) (s : S150_0) : (Int) := IntKind.i64.wrap (s.x13 + (1:Int))
theorem n_e150_0_1 (p : P150_0) (s : S150_0) : e150_0_1 p s := by
  unfold e150_0_1
  (repeat' first | intro _ | apply And.intro) <;> first | rfl | exact absurd (by assumption) (Nat.not_lt_zero _) | exact scpL_rowSet (by rfl) (by rfl) | exact scpL_rowEl (by kernel_rfl) _ | omega | decide
theorem n_e150_0_4 (p : P150_0) (s : S150_0) : e150_0_4 p s := by
  unfold e150_0_4
  (repeat' first | intro _ | apply And.intro) <;> first | rfl | exact absurd (by assumption) (Nat.not_lt_zero _) | exact scpL_rowSet (by rfl) (by rfl) | exact scpL_rowEl (by kernel_rfl) _ | omega | decide
noncomputable def rf150_0 (p : P150_0) (s : S150_0) : Tr (Rs th.R S150_0) := (Tr.ite (e150_0_0 p s) (Tr.need (e150_0_1 p s) (Tr.leaf (Rs.out (Ex.exit (0:Nat)) [none, none, none, none, some (SV.bool (p.b4)), none, none, none, none, none, none, none, none, none, none, none, none, none, none, none, none, none, none, none, none, none] [(HO.row (22:Nat) (1:Nat) (p.N0) (fun j => [SV.int .u64 (p.F0_0 j)])), (HO.row (22:Nat) (1:Nat) (p.N1) (fun j => [SV.int .u64 (p.F1_0 j)]))]))) (Tr.need (e150_0_2 p s) (Tr.ite (e150_0_3 p s) (Tr.need (e150_0_1 p s) (Tr.leaf (Rs.out (Ex.ret) [none, none, none, none, some (SV.bool (false)), none, none, none, none, none, none, none, none, none, none, none, none, none, none, none, none, none, none, none, none, none] [(HO.row (22:Nat) (1:Nat) (p.N0) (fun j => [SV.int .u64 (p.F0_0 j)])), (HO.row (22:Nat) (1:Nat) (p.N1) (fun j => [SV.int .u64 (p.F1_0 j)]))]))) (Tr.need (e150_0_4 p s) (Tr.leaf (Rs.on (S150_0.mk ((e150_0_5 p s)))))))))
noncomputable def r150_0 (p : P150_0) (s : S150_0) : Tr (Rs th.R S150_0) := (Tr.ite (e150_0_0 p s) (Tr.leaf (Rs.out (Ex.exit (0:Nat)) [none, none, none, none, some (SV.bool (p.b4)), none, none, none, none, none, none, none, none, none, none, none, none, none, none, none, none, none, none, none, none, none] [(HO.row (22:Nat) (1:Nat) (p.N0) (fun j => [SV.int .u64 (p.F0_0 j)])), (HO.row (22:Nat) (1:Nat) (p.N1) (fun j => [SV.int .u64 (p.F1_0 j)]))])) (Tr.need (e150_0_2 p s) (Tr.ite (e150_0_3 p s) (Tr.leaf (Rs.out (Ex.ret) [none, none, none, none, some (SV.bool (false)), none, none, none, none, none, none, none, none, none, none, none, none, none, none, none, none, none, none, none, none, none] [(HO.row (22:Nat) (1:Nat) (p.N0) (fun j => [SV.int .u64 (p.F0_0 j)])), (HO.row (22:Nat) (1:Nat) (p.N1) (fun j => [SV.int .u64 (p.F1_0 j)]))])) (Tr.leaf (Rs.on (S150_0.mk ((e150_0_5 p s))))))))
noncomputable def E150_0 : St th.R → Out th := evCode th Try.prog (auto th Try.prog nice158n [] 20) (autoH [] [] [] [] : Hints th) (lpAt Try.prog 150 0)
theorem B150_0 : CodeSound th Try.prog (lpAt Try.prog 150 0) E150_0 := evCode_sound (T := th) (P := Try.prog) (tbl := (auto th Try.prog nice158n [] 20)) (auto_sound (nice := nice158n) (us := []) nok158n 20) (autoH [] [] [] [] : Hints th) _ (LoopsOk_mem (fun _ => rfl) _ fun b hb L hL => by cases hL)
noncomputable def L150_0 : St th.R → Out th := loopL d150_0 ofV150_0 r150_0
theorem h1_150_0 (p : P150_0) (s : S150_0) : bld d150_0.tm (toV150_0 p s) = some (I150_0 p s) := by kernel_rfl
theorem h2_150_0 (l : List (Vl th.R)) (p : P150_0) (s : S150_0) (h : ofV150_0 l = some (p, s)) : l = toV150_0 p s := by
  unfold ofV150_0 at h
  split at h
  · cases h; rfl
  · cases h
theorem h3_150_0 (p : P150_0) (s : S150_0) : cvE d150_0 (E150_0 (I150_0 p s)) = some ((rf150_0 p s).map (Rs.map (toV150_0 p))) := by kernel_rfl
theorem h3g_150_0 (p : P150_0) (s : S150_0) : (rf150_0 p s).get = (r150_0 p s).get := by kernel_rfl
theorem h4_150_0 (p : P150_0) (s s1 : S150_0) : outH d150_0.dirt d150_0.n0 (r150_0 p s) = repH (maskH d150_0.dirt 0 d150_0.n0 (I150_0 p s1).heap) (r150_0 p s) := by kernel_rfl
theorem ls150_0 : CodeSound th Try.prog (.loop (lpAt Try.prog 150 0)) L150_0 := loopL_sound B150_0 d150_0 I150_0 toV150_0 (by kernel_rfl) h1_150_0 h2_150_0
  (fun p s => ⟨(rf150_0 p s).map (Rs.map (toV150_0 p)), h3_150_0 p s, fun h => by
    rw [Tr.map_ok]
    unfold r150_0 at h; unfold rf150_0
    simp only [Tr.ok, n_e150_0_1, n_e150_0_4, true_and, and_true, forall_const, implies_true] at h ⊢
    try exact h, by rw [Tr.map_get, h3g_150_0 p s]⟩) h4_150_0
theorem ok150 : LoopsOk th Try.prog (autoH [(4, L150_0)] [] [] [] : Hints th) (bodyOf Try.prog 150) := autoH_ok (bs := [lpAt Try.prog 150 0]) (by kernel_rfl) fun b hb L hL => by
  simp only [List.mem_cons, List.not_mem_nil, or_false] at hb
  rcases hb with rfl
  · have e : lookL [(4, L150_0)] (firstReg (lpAt Try.prog 150 0)) = some L150_0 := by kernel_rfl
    rw [e] at hL; cases hL
    exact ls150_0
noncomputable def f150_3 (v : V150) : (Bool) := (↑v.L:Int) != (↑v.N:Int)
noncomputable def f150_4 (v : V150) : (P150_0) := P150_0.mk v.L v.N false (↑v.L:Int) v.Q v.F v.R v.G
noncomputable def f150_0 (v : V150) : (Prop) := f150_3 v = false → (∀ (i:Nat), i < v.Q → (fun (j:Nat) => [SV.int IntKind.u64 (v.F j)]) i = elC (fun (j:Nat) => [SV.int IntKind.u64 (v.F j)]) (0:Nat) [Ck.int IntKind.u64] i) ∧ ∀ (i:Nat), i < v.R → (fun (j:Nat) => [SV.int IntKind.u64 (v.G j)]) i = elC (fun (j:Nat) => [SV.int IntKind.u64 (v.G j)]) (0:Nat) [Ck.int IntKind.u64] i
noncomputable def f150_1 (v : V150) : (Prop) := f150_3 v = false → LT (r150_0 (f150_4 v)) (S150_0.mk (0:Int))
noncomputable def f150z0 (v : V150) : S150_0 := lastS (r150_0 (f150_4 v)) (S150_0.mk (0:Int))
noncomputable def f150_2 (v : V150) : (Bool) := cnd (f150_3 v) false (cnd (cnd (e150_0_0 (f150_4 v) (f150z0 v)) false true) false true)
theorem n_f150_0 (v : V150) : f150_0 v := by
  unfold f150_0
  (repeat' first | intro _ | apply And.intro) <;> first | rfl | exact absurd (by assumption) (Nat.not_lt_zero _) | exact scpL_rowSet (by rfl) (by rfl) | exact scpL_rowEl (by kernel_rfl) _ | omega | decide
noncomputable def ff150 (v : V150) : Tr (Fin th.R) := (Tr.need (f150_0 v) (Tr.need (f150_1 v) (Tr.leaf (SV.bool (f150_2 v), [(HO.row (22:Nat) (1:Nat) (v.Q) (fun j => [SV.int .u64 (v.F j)])), (HO.row (22:Nat) (1:Nat) (v.R) (fun j => [SV.int .u64 (v.G j)]))], List.nil))))
noncomputable def f150 (v : V150) : Tr (Fin th.R) := (Tr.need (f150_1 v) (Tr.leaf (SV.bool (f150_2 v), [(HO.row (22:Nat) (1:Nat) (v.Q) (fun j => [SV.int .u64 (v.F j)])), (HO.row (22:Nat) (1:Nat) (v.R) (fun j => [SV.int .u64 (v.G j)]))], [])))
noncomputable def C150 : CF th.R := fnC d150 ofV150 (f150 )
theorem q150 (v : V150) : (evFn th Try.prog (auto th Try.prog nice158n [] 20) (autoH [(4, L150_0)] [] [] [] : Hints th) 150) (A150 v) (H150 v) = some (ff150 v) := by kernel_rfl
theorem qg150 (v : V150) : ((ff150 v).map (setD [])).get = (f150 v).get := by kernel_rfl
theorem qd150 (v : V150) : allD 2 [] (ff150 v) = true := by kernel_rfl
theorem s150 : Sound Try.prog th 150 (C150 ) := fnC_sound (evFn_sound' (T := th) (P := Try.prog) (tbl := (auto th Try.prog nice158n [] 20)) (auto_sound (nice := nice158n) (us := []) nok158n 20) (H := (autoH [(4, L150_0)] [] [] [] : Hints th)) (k := 150) (fnLoops ok150)) d150 A150 H150 toV150 (by kernel_rfl) (fun v => by kernel_rfl)
  (fun l v h => by
    unfold ofV150 at h
    split at h
    · cases h; rfl
    · cases h)
  [] (fun v => ⟨ff150 v, q150 v, fun h => by
    unfold f150 at h; unfold ff150
    simp only [Tr.ok, n_f150_0, true_and, and_true, forall_const, implies_true] at h ⊢
    try exact h, qg150 v, qd150 v⟩)
theorem qdd150 (v : V150) : (f150 v).get.2.2 = [] := by
  rw [← qg150, Tr.map_get]; rfl
set_option maxRecDepth 100000
theorem l150 {p : P150_0} {s : S150_0} (h0 : p.n0 ≤ p.N0) (h1 : p.n1 = p.n0 ∧ p.n1 ≤ p.N1) (h2 : p.x12 = p.n0) (hL : p.n0 ≤ 2000000) (hs : s.x13 = 0) : LT (r150_0 p) s ∧ (e150_0_0 p (lastS (r150_0 p) s) = decide (ls p.F0_0 p.n0 = ls p.F1_0 p.n0)) := by
  refine LT.post (fun s : S150_0 => ∃ k : Nat, s.x13 = k ∧ k ≤ p.n0 ∧ ∀ j, j < k → p.F0_0 j = p.F1_0 j) (fun s : S150_0 => e150_0_0 p s = decide (ls p.F0_0 p.n0 = ls p.F1_0 p.n0)) (fun s : S150_0 => (p.n0 - s.x13).toNat) ?_ ⟨0, hs, Nat.zero_le _, fun j hj => absurd hj (Nat.not_lt_zero _)⟩
  rintro ⟨x13⟩ ⟨k, g1, g2, g3⟩
  simp only at g1
  subst g1
  have w2 : IntKind.i64.wrap ((k:Int) + 1) = ((k + 1:Nat):Int) := by rw [wi (by omega) (by omega)]; omega
  have e6 : e150_0_6 p ⟨k⟩ = k := by show 0 + (k:Int).toNat = k; omega
  by_cases hc : k < p.n0
  · have hd : e150_0_0 p ⟨k⟩ = false := by
      show cnd (decide ((k:Int) < p.x12)) false true = false
      rw [h2, decide_eq_true (by omega)]; rfl
    have n2 : e150_0_2 p ⟨k⟩ := ⟨fun _ => ⟨by show (0:Int) ≤ k; omega, by show (k:Int) < p.n0; omega⟩, fun _ => by rw [e6]; omega, fun _ => ⟨by show (0:Int) ≤ k; omega, by show (k:Int) < p.n1; omega⟩, fun _ => by rw [e6]; omega⟩
    by_cases he : p.F0_0 k = p.F1_0 k
    · have e3 : e150_0_3 p ⟨k⟩ = false := by unfold e150_0_3; rw [e6, he]; exact bne_self_eq_false _
      simp only [r150_0, hd, e3, Tr.ok, Tr.get]
      refine ⟨⟨(fun e => by cases e), fun _ => ⟨n2, (fun e => by cases e), fun _ => trivial⟩⟩, .inr ⟨_, rfl, ⟨k + 1, w2, hc, fun j hj => ?_⟩, ?_⟩⟩
      · by_cases hjk : j = k
        · rw [hjk]; exact he
        · exact g3 j (by omega)
      · show ((p.n0:Int) - e150_0_5 p _).toNat < ((p.n0:Int) - (k:Int)).toNat
        simp only [e150_0_5, w2]
        omega
    · have e3 : e150_0_3 p ⟨k⟩ = true := by unfold e150_0_3; rw [e6]; exact bne_iff_ne.2 he
      refine ⟨?_, .inl ⟨?_, ?_⟩⟩
      · simp only [r150_0, hd, e3, Tr.ok]
        exact ⟨(fun e => by cases e), fun _ => ⟨n2, fun _ => trivial, (fun e => by cases e)⟩⟩
      · simp only [r150_0, hd, e3, Tr.get]
        exact ⟨_, _, _, rfl⟩
      · show e150_0_0 p ⟨k⟩ = _
        rw [hd]
        refine (decide_eq_false fun e => he ?_).symm
        have := congrArg (fun l => l[k]?) e
        simpa [ls, hc] using this
  · have hd : e150_0_0 p ⟨k⟩ = true := by
      show cnd (decide ((k:Int) < p.x12)) false true = true
      rw [h2, decide_eq_false (by omega)]; rfl
    refine ⟨?_, .inl ⟨?_, ?_⟩⟩
    · simp only [r150_0, hd, Tr.ok]
      exact ⟨fun _ => trivial, (fun e => by cases e)⟩
    · simp only [r150_0, hd, Tr.get]
      exact ⟨_, _, _, rfl⟩
    · show e150_0_0 p ⟨k⟩ = _
      rw [hd]
      refine (decide_eq_true ?_).symm
      unfold ls
      apply List.map_congr_left
      intro j hj
      rw [List.mem_range] at hj
      exact g3 j (by omega)
def pre150 (v : V150) : Prop := v.L ≤ v.Q ∧ v.N ≤ v.R ∧ v.L ≤ 2000000
theorem n150 (v : V150) (h : pre150 v) : (f150 v).ok ∧ (f150 v).get.1 = .bool (decide (ls v.F v.L = ls v.G v.N)) ∧ HOws (f150 v).get.2.1 [HO.row 22 1 v.Q (fun j => [.int .u64 (v.F j)]), HO.row 22 1 v.R (fun j => [.int .u64 (v.G j)])] := by
  obtain ⟨h1, h2, h3⟩ := h
  by_cases hz : v.L = v.N
  · have h3' : f150_3 v = false := by unfold f150_3; rw [hz]; exact bne_self_eq_false _
    have main := l150 (p := f150_4 v) (s := ⟨0⟩) h1 ⟨hz.symm, h2⟩ rfl h3 rfl
    have m2 : e150_0_0 (f150_4 v) (f150z0 v) = decide (ls v.F v.L = ls v.G v.L) := main.2
    refine ⟨⟨fun _ => main.1, trivial⟩, ?_, .refl _⟩
    simp only [f150, Tr.get, f150_2, h3', m2, ← hz]
    cases decide (ls v.F v.L = ls v.G v.L) <;> rfl
  · have h3' : f150_3 v = true := by unfold f150_3; exact bne_iff_ne.2 (by omega)
    refine ⟨⟨(fun e => by rw [h3'] at e; cases e), trivial⟩, ?_, .refl _⟩
    have hne : ¬ (ls v.F v.L = ls v.G v.N) := fun e => hz (by have := congrArg List.length e; simpa [ls_len] using this)
    simp only [f150, Tr.get, f150_2, h3', decide_eq_false hne]
    rfl
noncomputable def f150n (v : V150) : Tr (Fin th.R) := .need (pre150 v) (.leaf (.bool (decide (ls v.F v.L = ls v.G v.N)), [.row 22 1 v.Q (fun j => [.int .u64 (v.F j)]), .row 22 1 v.R (fun j => [.int .u64 (v.G j)])], []))
theorem s150n : Sound Try.prog th 150 (fnC d150 ofV150 f150n) := fnC_refine s150 fun v h => by
  obtain ⟨hp, _⟩ := h
  obtain ⟨a, b, c⟩ := n150 v hp
  exact ⟨a, b.symm, (qdd150 v).symm, c, by show 2 ≤ 2; decide⟩
end Go.Sx.M

namespace Go.Sx.M
open Go Go.Sx Go.Proofs Go.RowKit Go.Maps
set_option maxRecDepth 100000
/-! ### Two arrays of words are held against each other -/
def allK (f g : Nat → Int) : Nat → Nat → Bool
  | 0, _ => true
  | k + 1, i => (f i == g i) && allK f g k (i + 1)
theorem allK_iff {f g : Nat → Int} : ∀ {k i : Nat}, allK f g k i = true ↔ ∀ j, i ≤ j → j < i + k → f j = g j
  | 0, i => ⟨fun _ j h1 h2 => by omega, fun _ => rfl⟩
  | k + 1, i => by
    unfold allK
    rw [Bool.and_eq_true, allK_iff, beq_iff_eq]
    constructor
    · rintro ⟨h1, h2⟩ j h3 h4
      by_cases e : j = i
      · rw [e]; exact h1
      · exact h2 j (by omega) (by omega)
    · intro h
      exact ⟨h i (Nat.le_refl _) (by omega), fun j h1 h2 => h j (by omega) (by omega)⟩
def svs (f : Nat → Int) (m:Nat) : List SV := (List.range m).map fun i => SV.int .u64 (f i)
theorem svs_get {f : Nat → Int} {m i : Nat} (h : i < m) : (svs f m)[i]? = some (.int .u64 (f i)) := by simp [svs, h]
theorem eqIs_svs {f g : Nat → Int} {m : Nat} : ∀ (k i:Nat), i + k ≤ m → eqIs (evEq Try.prog 7 22) Try.prog 22 1 (svs f m) (svs g m) k i = some (allK f g k i)
  | 0, _, _ => rfl
  | k + 1, i, h => by
    have h1 : partS Try.prog 22 (svs f m) (i * 1) = some (.int .u64 (f i)) := by
      have : partS Try.prog 22 (svs f m) (i * 1) = (svs f m)[i * 1]? := by
        have ha : aggT Try.prog 22 = some false := by kernel_rfl
        unfold partS
        rw [ha]
      rw [this, Nat.mul_one, svs_get (by omega)]
    have h2 : partS Try.prog 22 (svs g m) (i * 1) = some (.int .u64 (g i)) := by
      have : partS Try.prog 22 (svs g m) (i * 1) = (svs g m)[i * 1]? := by
        have ha : aggT Try.prog 22 = some false := by kernel_rfl
        unfold partS
        rw [ha]
      rw [this, Nat.mul_one, svs_get (by omega)]
    have h3 : evEq Try.prog 7 22 (.int .u64 (f i)) (.int .u64 (g i)) = some (f i == g i) := by kernel_rfl
    have ih := eqIs_svs (f := f) (g := g) (m := m) k (i + 1) (by omega)
    unfold eqIs
    rw [h1, h2]
    simp only [h3, ih]
    rfl
theorem und193 : Try.prog.underlying 193 = some (.array 512 22) := by kernel_rfl
theorem size22 : sizeT Try.prog 22 = some 1 := by kernel_rfl
theorem guard193 : Try.prog.eqGuardType Try.prog.depth 193 = false := by kernel_rfl
theorem evEq193 (f g : Nat → Int) : evEq Try.prog 8 193 (.agg (svs f 512)) (.agg (svs g 512)) = some (allK f g 512 0) := by
  have h := eqIs_svs (f := f) (g := g) (m := 512) 512 0 (Nat.le_refl _)
  generalize hN : 512 = N at h ⊢
  unfold evEq
  rw [und193, hN]
  simp only [size22]
  exact h
def wof (W : Int → Int) (p:Int) : Nat → Int := fun i => W (p * 4096 + 8 * (i:Int))
theorem rel_map {ρ : Env} {f : Nat → Int} : ∀ (l : List Nat), RelL ρ (l.map fun i => SV.int .u64 (f i)) (l.map fun i => Value.int .u64 (f i))
  | [] => rfl
  | i :: l => ⟨_, _, rfl, rfl, rel_map l⟩
theorem rel_sheet (ρ : Env) (W : Int → Int) (p:Int) : Rel ρ (.agg (svs (wof W p) 512)) (.agg (sheet W p).toArray) := ⟨sheet W p, rfl, rel_map (f := wof W p) _⟩
theorem neq_run (W V : Int → Int) (p:Int) (ox oy : Operand) (w : World) :
    (do eqGuard .neq 193 ox oy (.agg (sheet W p).toArray) (.agg (sheet V p).toArray); binOp .neq 193 (.agg (sheet W p).toArray) (.agg (sheet V p).toArray) : Sem Value).run Try.prog w = .ok (.bool (!allK (wof W p) (wof V p) 512 0)) w := by
  have he : evBin Try.prog .neq 193 (.agg (svs (wof W p) 512)) (.agg (svs (wof V p) 512)) = some (.bool (!allK (wof W p) (wof V p) 512 0), none) := by
    have h := evEq193 (wof W p) (wof V p)
    unfold evBin
    simp only [guard193]
    rw [h]
    rfl
  obtain ⟨v, hv, hr⟩ := evBin_sound (ρ := []) he trivial (rel_sheet [] W p) (rel_sheet [] V p) ox oy w
  have hr : v = .bool (!allK (wof W p) (wof V p) 512 0) := hr
  rw [hv, hr]
/-! ### A region that only reads, an operation at a time -/
section
variable {P : Program} {ops : Array Oper} {C : World → Prop} {Q : Act → Prop} {rest : List Oper} {a : Act}
theorem quiet_of_run {o : Oper} {v : Value} (hg : o.guard = none) (hv : ∀ w', C w' → (execOp a.eval o).run P w' = .ok (.value v) w') (hK : wpQuiet P ops C Q rest (a.put o.dst v)) : wpQuiet P ops C Q (o :: rest) a := by
  unfold wpQuiet
  have : Region.wanted o (yielded ops a.tmps) = true := by simp [Region.wanted, hg]
  rw [if_pos this]
  exact ⟨v, fun w' hw => by unfold Oper.quietAt; rw [hv w' hw]; exact ⟨rfl, rfl⟩, hK⟩
theorem quiet_load {d ty t : Nat} {pos : String} {after : Array Edge} {x : Operand} {b : Addr} {v : Value} (hx : a.eval x = .pointer (some b)) (hl : ∀ w', C w' → (loadVar t b).run P w' = .ok v w') (hK : wpQuiet P ops C Q rest (a.put (some d) v)) :
    wpQuiet P ops C Q ({ dst := some d, op := Op.load t x, type := ty, pos := pos, after := after, guard := none } :: rest) a :=
  quiet_of_run rfl (fun w' hw => by simp [execOp, Instr.loadAt, Instr.sureAddr, hx, hl w' hw, Result.andThen]) hK
theorem quiet_lookup {d ty t : Nat} {pos : String} {after : Array Edge} {x y : Operand} {m k v : Value} (hx : a.eval x = m) (hy : a.eval y = k) (hl : ∀ w', C w' → (Instr.lookup t m k false).run P w' = .ok v w') (hK : wpQuiet P ops C Q rest (a.put (some d) v)) :
    wpQuiet P ops C Q ({ dst := some d, op := Op.lookup t x y false, type := ty, pos := pos, after := after, guard := none } :: rest) a :=
  quiet_of_run rfl (fun w' hw => by simp [execOp, hx, hy, hl w' hw, Result.andThen]) hK
theorem quiet_neq {d ty t : Nat} {pos : String} {after : Array Edge} {x y : Operand} {m k v : Value} (hx : a.eval x = m) (hy : a.eval y = k) (hl : ∀ w', (do eqGuard .neq t x y m k; binOp .neq t m k : Sem Value).run P w' = .ok v w') (hK : wpQuiet P ops C Q rest (a.put (some d) v)) :
    wpQuiet P ops C Q ({ dst := some d, op := Op.binOp .neq t x y t, type := ty, pos := pos, after := after, guard := none } :: rest) a := by
  refine quiet_of_run (v := v) rfl (fun w' hw => ?_) hK
  have := hl w'
  simp only [execOp, hx, hy]
  rw [Sem.run_bind, this]
  rfl
end
theorem memLook {M : Mem} {b mb : Nat} {w : World} {D : DataW Unit} {S : Int → Option Nat} (h : MemAt Try.prog 187 193 22 M b w mb D S) {p : Int} {s : Nat} (hs : S p = some s) :
    (Instr.lookup 185 (.map (some mb)) (.int .u64 p) false).run Try.prog w = .ok (.pointer (some ⟨s, 0, none⟩)) w := by
  have hr := h.rng p s hs
  have hwf : (Lit.int .u64 p).wf = true := wf64 (by omega) (by have := h.ok.hi; omega)
  obtain ⟨v, ps, hrun, hv⟩ := h.map.lookup law22 Try.underlying185 (zero190 w) (zd := .nil) (zp := []) rfl (keyOf_int_mk Try.underlying22 hwf)
  obtain ⟨hh, hat⟩ := h.yes p s hs
  rw [hat] at hv
  rcases ptrElem_inv hv with ⟨_, e⟩ | ⟨b', rfl, e⟩
  · cases e
  · simp only [Prod.mk.injEq, DataW.lit.injEq, Lit.int.injEq, true_and] at e
    have : s = b' := by omega
    subst this
    exact hrun
end Go.Sx.M

namespace Go.Sx.M
open Go Go.Sx Go.Proofs Go.RowKit Go.Maps
set_option maxRecDepth 100000
theorem _root_.Go.Sx.Turns.drewN {F : Nat → Prop} {w w' : World} (h : Turns F w w') (n:Nat) : Turns F w (w'.drewN n) := ⟨h.os, h.tape, h.output, h.size, h.rest, h.frz⟩
noncomputable def sameM (M N : Mem) : Bool := cnd (M.size != N.size) false (cnd (!decide (pgs M = pgs N)) false ((pgs M).all fun a => allK (wof M.W (a / 4096)) (wof N.W (a / 4096)) 512 0))
theorem rowCells {K : Nat → Prop} {w0 w : World} {l : Loc} {n : Nat} {el : Nat → Int} {v : Value} (I : Inv th K w0 [l] [.row 22 1 n (fun j => [.int .u64 (el j)])] w) (hv : Rel [l] (.slc 0 1 0 n) v) :
    ∃ o cap, v = .slice o n cap ∧ (0 < n → o = some ⟨l.blk, 0, none⟩ ∧ ∀ i, i < n → w.cell? ⟨l.blk, i, none⟩ = some (.int .u64 (el i))) := by
  obtain ⟨l', hl', h⟩ := hv
  have hl' : l = l' := by simpa using hl'
  subst hl'
  obtain ⟨F, h1, _, _⟩ := I.foot
  have ho := h1 0 _ l rfl rfl
  rcases h with ⟨e1, _, e3, rfl⟩ | ⟨e1, e2, a, rfl, e4⟩
  · exact ⟨none, 0, by rw [e3], fun e => by omega⟩
  · refine ⟨some a, _, rfl, fun hn => ?_⟩
    rcases ho with ⟨q, _⟩ | ⟨q1, q2, q3, q4, cs, q5, q6, q7, q8⟩
    · rw [e1] at q; cases q
    · have ea := e4 (by omega)
      rw [q2] at ea
      refine ⟨by rw [ea], fun i hi => ?_⟩
      obtain ⟨y, ys, hy, hr, _⟩ := q8 i hi
      have hr : y = .int .u64 (el i) := hr
      have hg : cs[i]? = some y := by
        have := congrArg (fun l => l[0]?) hy
        simpa using this
      rw [hr] at hg
      unfold World.cell?
      simp only [q5, List.getElem?_toArray, hg]
      rfl
theorem pgs_mem {M : Mem} {b mb : Nat} {w : World} {D : DataW Unit} {S : Int → Option Nat} (h : MemAt Try.prog 187 193 22 M b w mb D S) {a : Int} (ha : a ∈ pgs M) : ∃ s, S (a / 4096) = some s ∧ a = a / 4096 * 4096 ∧ 0 ≤ a ∧ a < M.size := by
  unfold pgs pgN at ha
  obtain ⟨p, hp, rfl⟩ := List.mem_map.1 ha
  obtain ⟨h1, h2⟩ := List.mem_filter.1 hp
  have h1 := List.mem_range.1 h1
  have h2 := of_decide_eq_true h2
  obtain ⟨i, hi, hw⟩ := cntW_pos.1 h2
  have hz := h.zero _ hw
  rw [show ((p:Int) * 4096 + 8 * (i:Int)) / 4096 = p by omega] at hz
  rw [show (p:Int) * 4096 / 4096 = p by omega]
  unfold pagN at h1
  cases hs : S (p:Nat) with
  | none => exact absurd hs hz
  | some s => exact ⟨s, rfl, rfl, by omega, by omega⟩
set_option maxHeartbeats 8000000 in
theorem same_walk1 {M N : Mem} {b b2 mb mb2 : Nat} {D D2 : DataW Unit} {S S2 : Int → Option Nat} (w : World) (hM : MemAt Try.prog 187 193 22 M b w mb D S) (hN : MemAt Try.prog 187 193 22 N b2 w mb2 D2 S2) (h1 : (pgs M).length ≤ 12) (hne : M.size ≠ N.size) :
    Calls Try.prog 79 #[.pointer (some ⟨b, 0, none⟩), .pointer (some ⟨b2, 0, none⟩)] w fun e w' => e = .returned (.bool false) ∧ Turns (fun _ => False) w w' := by
  have hp := pages_ok w hM h1
  go_enter Try.func79, Try.ntmps79
  go_wp2_with (go_at_call 147; refine hp.mono ?_; rintro e w1 ⟨v1, l1, rfl, ht1, hI1, hv1⟩)
  have c0 : w1.cell? ⟨b, 0, none⟩ = some (.int .u64 M.size) := by simp [World.cell?, (memGrow hM ht1).cells]
  have c2 : w1.cell? ⟨b2, 0, none⟩ = some (.int .u64 N.size) := by simp [World.cell?, (memGrow hN ht1).cells]
  have hb : (M.size == N.size) = false := by simpa using hne
  go_quiet (fail)
  go_wp2
  go_ret
  exact ⟨rfl, ht1.drewN nq⟩
theorem cw150 (v : V150) : fnC d150 ofV150 f150n (A150 v) (H150 v) = some (.need ((∀ i, i < v.Q → (fun j => [.int .u64 (v.F j)] : Nat → List SV) i = elC (fun j => [.int .u64 (v.F j)] : Nat → List SV) 0 [.int .u64] i) ∧ ∀ i, i < v.R → (fun j => [.int .u64 (v.G j)] : Nat → List SV) i = elC (fun j => [.int .u64 (v.G j)] : Nat → List SV) 0 [.int .u64] i) ((f150n v).map (fixF (H150 v)))) := by kernel_rfl
theorem Inv.add {K K2 : Nat → Prop} {w1 w2 : World} {l1 l2 : Loc} {n1 n2 : Nat} {F G : Nat → Int} (I1 : Inv th K w1 [l1] [.row 22 1 n1 (fun j => [.int .u64 (F j)])] w1) (ht : Turns (fun _ => False) w1 w2) (I2 : Inv th K2 w2 [l2] [.row 22 1 n2 (fun j => [.int .u64 (G j)])] w2) (hK : ∀ i, i < w1.heap.size → K2 i) :
    Inv th K w1 [l1, l2] [.row 22 1 n1 (fun j => [.int .u64 (F j)]), .row 22 1 n2 (fun j => [.int .u64 (G j)])] w2 := by
  obtain ⟨F2, h1, h2, h3⟩ := I2.foot
  refine I1.news l2 _ (F2 0) ht (fun i hi => ⟨?_, (h3 0 i hi).1⟩) ?_
  · exact Nat.le_of_not_lt fun hlt => (h3 0 i hi).2 (hK i hlt)
  · have := h1 0 _ l2 rfl rfl
    rcases this with q | ⟨q1, q2, q3, q4, cs, q5, q6, q7, q8⟩
    · exact .inl q
    · exact .inr ⟨q1, q2, q3, q4, cs, q5, q6, q7, q8⟩
theorem equal_ok {K : Nat → Prop} {w1 w2 : World} {l1 l2 : Loc} {L1 L2 : List Int} {v1 v2 : Value} (I : Inv th K w1 [l1, l2] [.row 22 1 L1.length (fun j => [.int .u64 (L1.getD j 0)]), .row 22 1 L2.length (fun j => [.int .u64 (L2.getD j 0)])] w2) (hv1 : Rel [l1] (.slc 0 1 0 L1.length) v1) (hv2 : Rel [l2] (.slc 0 1 0 L2.length) v2) (hn : L1.length ≤ 2000000) :
    Calls Try.prog 150 #[v1, v2] w2 fun e w' => e = .returned (.bool (decide (L1 = L2))) ∧ Inv th K w1 [l1] [.row 22 1 L1.length (fun j => [.int .u64 (L1.getD j 0)])] w' := by
  have q1 : Rel [l1, l2] (.slc 0 1 0 L1.length) v1 := Rel.mono ⟨[l2], rfl⟩ _ _ hv1
  have q2 : Rel [l1, l2] (.slc 1 1 0 L2.length) v2 := by
    obtain ⟨l, hl, h⟩ := hv2
    have hl : l2 = l := by simpa using hl
    subst hl
    exact ⟨l2, rfl, h⟩
  have hc := fnC_out s150n (cw150 ⟨L1.length, L2.length, L1.length, fun j => L1.getD j 0, L2.length, fun j => L2.getD j 0⟩) (⟨⟨fun i _ => rfl, fun i _ => rfl⟩, ⟨Nat.le_refl _, Nat.le_refl _, hn⟩, trivial⟩ : _) I (vargs := [v1, v2]) ⟨_, _, rfl, q1, _, _, rfl, q2, rfl⟩
  have hls : ∀ L : List Int, ls (fun j => L.getD j 0) L.length = L := fun L => by
    unfold ls
    apply List.ext_getElem
    · simp
    · intro i h1 h2
      simp [List.getD, h2]
  refine hc.mono ?_
  rintro e w' ⟨ρ', cv, rfl, ⟨ex, rfl⟩, I', hcv⟩
  have hcv : cv = .bool (decide (ls (fun j => L1.getD j 0) L1.length = ls (fun j => L2.getD j 0) L2.length)) := hcv
  refine ⟨by rw [hcv, hls, hls], Inv.rowOf I' (m := 0) rfl rfl⟩
set_option maxHeartbeats 8000000 in
theorem same_walk2 {M N : Mem} {b b2 mb mb2 : Nat} {D D2 : DataW Unit} {S S2 : Int → Option Nat} (w : World) (hM : MemAt Try.prog 187 193 22 M b w mb D S) (hN : MemAt Try.prog 187 193 22 N b2 w mb2 D2 S2) (h1 : (pgs M).length ≤ 12) (h2 : (pgs N).length ≤ 12) (hne : M.size = N.size) (hpg : pgs M ≠ pgs N) :
    Calls Try.prog 79 #[.pointer (some ⟨b, 0, none⟩), .pointer (some ⟨b2, 0, none⟩)] w fun e w' => e = .returned (.bool false) ∧ Turns (fun _ => False) w w' := by
  have hp := pages_ok w hM h1
  go_enter Try.func79, Try.ntmps79
  go_wp2_with (go_at_call 147; refine hp.mono ?_; rintro e w1 ⟨v1, l1, rfl, ht1, hI1, hv1⟩)
  have c0 : w1.cell? ⟨b, 0, none⟩ = some (.int .u64 M.size) := by simp [World.cell?, (memGrow hM ht1).cells]
  have c2 : w1.cell? ⟨b2, 0, none⟩ = some (.int .u64 N.size) := by simp [World.cell?, (memGrow hN ht1).cells]
  have hb : (M.size == N.size) = true := by simpa using hne
  have hdp : decide (pgs M = pgs N) = false := decide_eq_false hpg
  have hp2 : ∀ n, Calls Try.prog 147 #[.pointer (some ⟨b2, 0, none⟩)] (w1.drewN n) fun e w' => ∃ v l, e = .returned v ∧ Turns (fun _ => False) (w1.drewN n) w' ∧ Inv th (fun i => i ≤ w1.heap.size) w' [l] [.row 22 1 (pgs N).length (fun j => [.int .u64 ((pgs N).getD j 0)])] w' ∧ Rel [l] (.slc 0 1 0 (pgs N).length) v :=
    fun n => pages_ok _ (memGrow hN (ht1.drewN n)) h2
  go_region_with (first
    | (go_at_call 147; refine (hp2 _).mono ?_; rintro e w2 ⟨v2, l2, rfl, ht2, hI2, hv2⟩)
    | (go_at_call 150; refine (equal_ok (Inv.add hI1 (((Turns.refl _ _).drewN _).trans ht2) hI2 (fun i hi => by show i ≤ w1.heap.size; omega)) hv1 hv2 (by omega)).mono ?_; rw [hdp]; rintro e w3 ⟨rfl, hI3⟩))
  all_goals
    go_wp2
    go_ret
    have ht3 : Turns (fun _ => False) w w3 := by
      have := (ht1.mono (G := fun i => ¬ i ≤ w.heap.size) (fun _ _ h => h.elim)).trans (keptTurns hI3.kept)
      exact this.mono fun i hi e => by omega
    exact ⟨rfl, ht3⟩
set_option maxHeartbeats 2000000 in
theorem same_walk3 {M N : Mem} {b b2 mb mb2 : Nat} {D D2 : DataW Unit} {S S2 : Int → Option Nat} (w : World) (hM : MemAt Try.prog 187 193 22 M b w mb D S) (hN : MemAt Try.prog 187 193 22 N b2 w mb2 D2 S2) (h1 : (pgs M).length ≤ 12) (h2 : (pgs N).length ≤ 12) (hne : M.size = N.size) (hpg : Hid (pgs M = pgs N)) :
    Calls Try.prog 79 #[.pointer (some ⟨b, 0, none⟩), .pointer (some ⟨b2, 0, none⟩)] w fun e w' => e = .returned (.bool ((pgs M).all fun a => allK (wof M.W (a / 4096)) (wof N.W (a / 4096)) 512 0)) ∧ Turns (fun _ => False) w w' := by
  have hp := pages_ok w hM h1
  go_enter Try.func79, Try.ntmps79
  go_wp2_with (go_at_call 147; refine hp.mono ?_; rintro e w1 ⟨v1, l1, rfl, ht1, hI1, hv1⟩)
  obtain ⟨o, cap, rfl, _⟩ := rowCells hI1 hv1
  have c0 : w1.cell? ⟨b, 0, none⟩ = some (.int .u64 M.size) := by simp [World.cell?, (memGrow hM ht1).cells]
  have c2 : w1.cell? ⟨b2, 0, none⟩ = some (.int .u64 N.size) := by simp [World.cell?, (memGrow hN ht1).cells]
  have hb : (M.size == N.size) = true := by simpa using hne
  have hdp : Hid (decide (pgs M = pgs N) = true) := decide_eq_true hpg.out
  have hp2 : ∀ n, Calls Try.prog 147 #[.pointer (some ⟨b2, 0, none⟩)] (w1.drewN n) fun e w' => ∃ v l, e = .returned v ∧ Turns (fun _ => False) (w1.drewN n) w' ∧ Inv th (fun i => i ≤ w1.heap.size) w' [l] [.row 22 1 (pgs N).length (fun j => [.int .u64 ((pgs N).getD j 0)])] w' ∧ Rel [l] (.slc 0 1 0 (pgs N).length) v :=
    fun n => pages_ok _ (memGrow hN (ht1.drewN n)) h2
  go_region_with (first
    | (go_at_call 147; refine (hp2 _).mono ?_; rintro e w2 ⟨v2, l2, rfl, ht2, hI2, hv2⟩)
    | (go_at_call 150; refine (equal_ok (Inv.add hI1 (((Turns.refl _ _).drewN _).trans ht2) hI2 (fun i hi => by show i ≤ w1.heap.size; omega)) hv1 hv2 (by omega)).mono ?_; rw [hdp.out]; rintro e w3 ⟨rfl, hI3⟩))
  all_goals
    go_wp2
    have ht3 : Turns (fun _ => False) w w3 := by
      have := (ht1.mono (G := fun i => ¬ i ≤ w.heap.size) (fun _ _ h => h.elim)).trans (keptTurns hI3.kept)
      exact this.mono fun i hi e => by omega
    obtain ⟨o', cap', he, ho⟩ := rowCells hI3 hv1
    have he : o = o' := by injection he
    subst he
    go_loopw [7, 28] (fun _ i wr => ∃ k : Nat, k ≤ (pgs M).length ∧ i = .int .i64 k ∧ wr.heap = w3.heap ∧ Turns (fun _ => False) w wr ∧ ∀ j, j < k → allK (wof M.W ((pgs M).getD j 0 / 4096)) (wof N.W ((pgs M).getD j 0 / 4096)) 512 0 = true) (fun _ i _ => (pgs M).length - (Go.RowKit.intOf i).toNat)
    case atStart => exact ⟨0, Nat.zero_le _, rfl, rfl, ht3, fun j hj => absurd hj (Nat.not_lt_zero _)⟩
    case round =>
      obtain ⟨k, hk, rfl, hheap, htr, hall⟩ := hrel
      by_cases hkn : k < (pgs M).length
      · obtain ⟨ho1, hcell⟩ := ho (by omega)
        subst ho1
        have hmem : (pgs M).getD k 0 ∈ pgs M := by
          have : (pgs M).getD k 0 = (pgs M)[k] := by simp [List.getD, hkn]
          rw [this]; exact List.getElem_mem hkn
        obtain ⟨s1, hs1, _, a0, a1⟩ := pgs_mem hM hmem
        obtain ⟨s2, hs2, _, _, _⟩ := pgs_mem hN (by rw [← hpg.out]; exact hmem)
        have hMr := memGrow hM htr
        have hNr := memGrow hN htr
        have hk2 : wr.cell? ⟨l1.blk, k, none⟩ = some (.int .u64 ((pgs M).getD k 0)) := by
          have := hcell k hkn
          unfold World.cell? at this ⊢
          rw [hheap]; exact this
        have e1 : wr.cell? ⟨b, 1, none⟩ = some (.map (some mb)) := by simp [World.cell?, hMr.cells]
        have e2 : wr.cell? ⟨b2, 1, none⟩ = some (.map (some mb2)) := by simp [World.cell?, hNr.cells]
        clear hcell ho hMr hNr
        generalize hA : (pgs M).getD k 0 = A at hmem hs1 hs2 a0 a1 hk2
        have q1 : ∀ w', (∃ n, w' = wr.drewN n) → (Instr.lookup 185 (.map (some mb)) (.int .u64 (A / 4096)) false).run Try.prog w' = .ok (.pointer (some ⟨s1, 0, none⟩)) w' := by
          rintro w' ⟨n, rfl⟩
          exact memLook (memGrow hM (htr.drewN n)) hs1
        have q2 : ∀ w', (∃ n, w' = wr.drewN n) → (Instr.lookup 185 (.map (some mb2)) (.int .u64 (A / 4096)) false).run Try.prog w' = .ok (.pointer (some ⟨s2, 0, none⟩)) w' := by
          rintro w' ⟨n, rfl⟩
          exact memLook (memGrow hN (htr.drewN n)) hs2
        have d1 : ∀ w', (∃ n, w' = wr.drewN n) → (loadVar 193 ⟨s1, 0, none⟩).run Try.prog w' = .ok (.agg (sheet M.W (A / 4096)).toArray) w' := by
          rintro w' ⟨n, rfl⟩
          exact load_sheet ((memGrow hM (htr.drewN n)).data _ _ hs1)
        have d2 : ∀ w', (∃ n, w' = wr.drewN n) → (loadVar 193 ⟨s2, 0, none⟩).run Try.prog w' = .ok (.agg (sheet N.W (A / 4096)).toArray) w' := by
          rintro w' ⟨n, rfl⟩
          exact load_sheet ((memGrow hN (htr.drewN n)).data _ _ hs2)
        have hq := fun ox oy w => neq_run M.W N.W (A / 4096) ox oy w
        generalize hr : allK (wof M.W (A / 4096)) (wof N.W (A / 4096)) 512 0 = r at hq
        generalize (sheet M.W (A / 4096)).toArray = AA at d1 hq
        generalize (sheet N.W (A / 4096)).toArray = BB at d2 hq
        go_wp2
        refine wp_region_quiet_lit (by kernel_rfl) (by kernel_rfl) ?_
        iterate 6 (quiet_step (fail))
        refine quiet_lookup (t := 185) (m := .map (some mb)) (k := .int .u64 (A / 4096)) ?_ ?_ q1 ?_
        · rfl
        · rfl
        quiet_step (fail)
        refine quiet_load (t := 193) (b := ⟨s1, 0, none⟩) ?_ d1 ?_
        · rfl
        iterate 6 (quiet_step (fail))
        refine quiet_lookup (t := 185) (m := .map (some mb2)) (k := .int .u64 (A / 4096)) ?_ ?_ q2 ?_
        · rfl
        · rfl
        quiet_step (fail)
        refine quiet_load (t := 193) (b := ⟨s2, 0, none⟩) ?_ d2 ?_
        · rfl
        refine quiet_neq (t := 193) (m := .agg AA) (k := .agg BB) ?_ ?_ (fun w' => hq _ _ w') ?_
        · rfl
        · rfl
        refine wpQuiet_nil ?_
        intro wq hw'
        obtain ⟨nq, rfl⟩ := hw'
        cases r with
        | true =>
          go_wp2
          go_roundw
          case rel => exact ⟨k + 1, hkn, by simp, hheap, htr.drewN nq, fun j hj => by
            by_cases hjk : j = k
            · rw [hjk, hA]; exact hr
            · exact hall j (by omega)⟩
          case measure => simp [Go.RowKit.intOf]; omega
        | false =>
          have hfin : ((pgs M).all fun a => allK (wof M.W (a / 4096)) (wof N.W (a / 4096)) 512 0) = false := List.all_eq_false.2 ⟨A, hmem, by rw [hr]; simp⟩
          go_wp2
          go_ret
          exact ⟨by rw [hfin]; rfl, htr.drewN nq⟩
      · have hfin : ((pgs M).all fun a => allK (wof M.W (a / 4096)) (wof N.W (a / 4096)) 512 0) = true := List.all_eq_true.2 fun a ha => by
          obtain ⟨j, hj, rfl⟩ := List.mem_iff_getElem.1 ha
          have := hall j (by omega)
          have e : (pgs M).getD j 0 = (pgs M)[j] := by simp [List.getD, hj]
          rw [e] at this
          exact this
        go_wp2
        go_ret
        exact ⟨by rw [hfin]; rfl, htr⟩
end Go.Sx.M

namespace Go.Sx.M
open Go Go.Sx Go.Proofs Go.RowKit Go.Maps
set_option maxRecDepth 100000
theorem same_ok {M N : Mem} {b b2 mb mb2 : Nat} {D D2 : DataW Unit} {S S2 : Int → Option Nat} (w : World) (hM : MemAt Try.prog 187 193 22 M b w mb D S) (hN : MemAt Try.prog 187 193 22 N b2 w mb2 D2 S2) (h1 : (pgs M).length ≤ 12) (h2 : (pgs N).length ≤ 12) :
    Calls Try.prog 79 #[.pointer (some ⟨b, 0, none⟩), .pointer (some ⟨b2, 0, none⟩)] w fun e w' => e = .returned (.bool (sameM M N)) ∧ Turns (fun _ => False) w w' := by
  unfold sameM
  by_cases hne : M.size = N.size
  · have e1 : (M.size != N.size) = false := by rw [hne]; exact bne_self_eq_false _
    by_cases hpg : pgs M = pgs N
    · rw [e1, decide_eq_true hpg]
      exact same_walk3 w hM hN h1 h2 hne hpg
    · rw [e1, decide_eq_false hpg]
      exact same_walk2 w hM hN h1 h2 hne hpg
  · have e1 : (M.size != N.size) = true := bne_iff_ne.2 hne
    rw [e1]
    exact same_walk1 w hM hN h1 hne
/-! ### Same -/
structure V79 where
  M : th.R
  N : th.R
def A79 (v : V79) : List SV := [.ptr 0 0, .ptr 1 0]
def H79 (v : V79) : List (HO th.R) := [.res v.M, .res v.N]
def toV79 (v : V79) : List (Vl th.R) := [.r v.M, .r v.N]
def ofV79 : List (Vl th.R) → Option V79
  | [.r M, .r N] => some ⟨M, N⟩
  | _ => none
def d79 : Ft := ⟨[.ptr 0 0, .ptr 1 0], [.res, .res]⟩
def pre79 (v : V79) : Prop := (pgs v.M).length ≤ 12 ∧ (pgs v.N).length ≤ 12
noncomputable def f79 (v : V79) : Tr (Fin th.R) := .need (pre79 v) (.leaf (.bool (sameM v.M v.N), [.res v.M, .res v.N], []))
theorem open_res {K : Nat → Prop} {w0 w : World} {ρ : Env} {h : List (HO th.R)} {n : Nat} {M : Mem} (I : Inv th K w0 ρ h w) (hn : h[n]? = some (.res M)) {l : Loc} (hl : ρ[n]? = some l) : l.off = 0 ∧ ∃ mb D S, MemAt Try.prog 187 193 22 M l.blk w mb D S := by
  obtain ⟨l', F, hl', ⟨h0, mb, D, S, h, hf⟩, _, _⟩ := I.opens hn
  rw [hl] at hl'; cases hl'
  exact ⟨h0, mb, D, S, h⟩
theorem s79 : Sound Try.prog th 79 (fnC d79 ofV79 f79) := by
  refine fnC_direct (T := th) d79 A79 H79 toV79 (by kernel_rfl) (fun v => by kernel_rfl) ?_ ?_ (fun v _ => Nat.le_refl _) (fun v _ n hn _ => rfl)
  · intro l v h
    unfold ofV79 at h
    split at h
    · cases h; rfl
    · cases h
  · intro v hok K w0 ρ w vargs I hr
    obtain ⟨⟨g1, g2⟩, _⟩ := hok
    obtain ⟨x, xs, rfl, ⟨l, hl, rfl⟩, y, ys, rfl, ⟨l2, hl2, rfl⟩, hys⟩ := hr
    have hys : ys = [] := hys
    subst hys
    obtain ⟨h0, mb, D, S, hM⟩ := open_res I (n := 0) rfl hl
    obtain ⟨h02, mb2, D2, S2, hN⟩ := open_res I (n := 1) rfl hl2
    rw [show l.off + 0 = 0 by omega, show l2.off + 0 = 0 by omega]
    refine (same_ok w hM hN g1 g2).mono ?_
    rintro e w' ⟨rfl, ht⟩
    exact ⟨ρ, _, rfl, Pre.refl _, I.grow ht, rfl⟩
end Go.Sx.M

namespace Go.Sx.M
open Go Go.Sx Go.Proofs Go.RowKit
noncomputable def nice21c : List (Nat × CF th.R) := (79, lift (fnC d79 ofV79 f79)) :: (78, lift (fnC d78 ofV78 f78)) :: nice27n
theorem nok21c : NiceOk Try.prog th nice21c := ⟨lift_sound s79, lift_sound s78, nok27n⟩
set_option maxRecDepth 100000
structure V21 where
  at_ : Int
  k : Int
  a : Int
  b : Int
  r : Int
  g : Int
  s : Int
  m : Int
  x : Int
  p : Int
  d : Int
  w0 : Int
  w1 : Int
  w2 : Int
  w3 : Int
def A21 (v : V21) : List SV := [.int .u64 v.at_, .agg [.int .i64 v.k, .int .u64 v.a, .int .i64 v.b, .int .i64 v.r, .int .i64 v.g, .int .i64 v.s, .int .u64 v.m, .int .u64 v.x, .int .u64 v.p, .int .i64 v.d], .agg [.int .u64 v.w0, .int .u64 v.w1, .int .u64 v.w2, .int .u64 v.w3]]
def H21 (v : V21) : List (HO th.R) := []
def toV21 (v : V21) : List (Vl th.R) := [.i v.at_, .i v.k, .i v.a, .i v.b, .i v.r, .i v.g, .i v.s, .i v.m, .i v.x, .i v.p, .i v.d, .i v.w0, .i v.w1, .i v.w2, .i v.w3]
def ofV21 : List (Vl th.R) → Option V21
  | [.i at_, .i k, .i a, .i b, .i r, .i g, .i s, .i m, .i x, .i p, .i d, .i w0, .i w1, .i w2, .i w3] => some ⟨at_, k, a, b, r, g, s, m, x, p, d, w0, w1, w2, w3⟩
  | _ => none
def d21 : Ft := ⟨[.int .u64, .agg [.int .i64, .int .u64, .int .i64, .int .i64, .int .i64, .int .i64, .int .u64, .int .u64, .int .u64, .int .i64], .agg [.int .u64, .int .u64, .int .u64, .int .u64]], []⟩
theorem ok21 : LoopsOk th Try.prog (autoH [] [(15, 5)] [63] [] : Hints th) (bodyOf Try.prog 21) := autoH_ok (bs := [lpAt Try.prog 21 0]) (by kernel_rfl) fun b hb L hL => by
  simp only [List.mem_cons, List.not_mem_nil, or_false] at hb
  rcases hb with rfl
  · have e : lookL [] (firstReg (lpAt Try.prog 21 0)) = (none : Option (St th.R → Out th)) := by kernel_rfl
    rw [e] at hL; cases hL
noncomputable def f21_15 (v : V21) : (V91) := V91.mk v.at_ v.k v.a v.b v.r v.g v.s v.m v.x v.p v.d (f28_12 (V28.mk v.at_ v.w0 v.w1 v.w2 v.w3))
noncomputable def f21_16 (v : V21) : (Bool) := f30_1 v.at_ != (0:Int)
noncomputable def f21_17 (v : V21) : (Sl) := slOf (f21_15 v)
noncomputable def f21_18 (v : V21) : (Mem) := stM (f28_12 (V28.mk v.at_ v.w0 v.w1 v.w2 v.w3)) v.at_ (f21_17 v)
noncomputable def f21_19 (v : V21) : (Bool) := !f92_2 v.k v.a v.b v.r v.g v.s v.m v.x v.p v.d
noncomputable def f21_20 (v : V21) : (Int) := IntKind.u64.wrap (v.at_ + (0:Int))
noncomputable def f21_21 (v : V21) : (Bool) := cnd (errI (szM (f21_18 v)) (f21_20 v) != (0:Int)) true (rdM (f21_18 v) (f21_20 v) != [f93_1 v.k v.a v.b v.r v.g v.s v.m v.x v.p v.d, v.m, f93_2 v.k v.a v.b v.r v.g v.s v.m v.x v.p v.d, f93_3 v.k v.a v.b v.r v.g v.s v.m v.x v.p v.d].getD (0:Nat) (0:Int))
noncomputable def f21_22 (v : V21) : (Int) := IntKind.u64.wrap (v.at_ + (8:Int))
noncomputable def f21_23 (v : V21) : (Bool) := cnd (errI (szM (f21_18 v)) (f21_22 v) != (0:Int)) true (rdM (f21_18 v) (f21_22 v) != [f93_1 v.k v.a v.b v.r v.g v.s v.m v.x v.p v.d, v.m, f93_2 v.k v.a v.b v.r v.g v.s v.m v.x v.p v.d, f93_3 v.k v.a v.b v.r v.g v.s v.m v.x v.p v.d].getD (1:Nat) (0:Int))
noncomputable def f21_24 (v : V21) : (Int) := IntKind.u64.wrap (v.at_ + (16:Int))
noncomputable def f21_25 (v : V21) : (Bool) := cnd (errI (szM (f21_18 v)) (f21_24 v) != (0:Int)) true (rdM (f21_18 v) (f21_24 v) != [f93_1 v.k v.a v.b v.r v.g v.s v.m v.x v.p v.d, v.m, f93_2 v.k v.a v.b v.r v.g v.s v.m v.x v.p v.d, f93_3 v.k v.a v.b v.r v.g v.s v.m v.x v.p v.d].getD (2:Nat) (0:Int))
noncomputable def f21_26 (v : V21) : (Int) := IntKind.u64.wrap (v.at_ + (24:Int))
noncomputable def f21_27 (v : V21) : (Bool) := cnd (errI (szM (f21_18 v)) (f21_26 v) != (0:Int)) true (rdM (f21_18 v) (f21_26 v) != [f93_1 v.k v.a v.b v.r v.g v.s v.m v.x v.p v.d, v.m, f93_2 v.k v.a v.b v.r v.g v.s v.m v.x v.p v.d, f93_3 v.k v.a v.b v.r v.g v.s v.m v.x v.p v.d].getD (3:Nat) (0:Int))
noncomputable def f21_28 (v : V21) : (Bool) := sameM (f21_18 v) (f28_12 (V28.mk v.at_ v.w0 v.w1 v.w2 v.w3))
noncomputable def f21_29 (v : V21) : (Bool) := f34_0 v.k v.a v.b v.r v.g v.s v.m v.x v.p v.d
noncomputable def f21_30 (v : V21) : (Sl) := ld (f21_18 v) v.at_
noncomputable def f21_0 (v : V21) : (Prop) := pre27 V27.mk
noncomputable def f21_1 (v : V21) : (Prop) := false = false → pre28 (V28.mk v.at_ v.w0 v.w1 v.w2 v.w3)
noncomputable def f21_2 (v : V21) : (Prop) := false = false → false = false → pre91 (f21_15 v)
noncomputable def f21_3 (v : V21) : (Prop) := false = false → false = false → f21_16 v = true → cnd (stE (f28_12 (V28.mk v.at_ v.w0 v.w1 v.w2 v.w3)) v.at_ (f21_17 v) == f30_1 v.at_) true false = true → pre79 (V79.mk (f21_18 v) (f28_12 (V28.mk v.at_ v.w0 v.w1 v.w2 v.w3)))
noncomputable def f21_4 (v : V21) : (Prop) := false = false → false = false → f21_16 v = false → f21_19 v = true → cnd (stE (f28_12 (V28.mk v.at_ v.w0 v.w1 v.w2 v.w3)) v.at_ (f21_17 v) == (10:Int)) true false = true → pre79 (V79.mk (f21_18 v) (f28_12 (V28.mk v.at_ v.w0 v.w1 v.w2 v.w3)))
noncomputable def f21_5 (v : V21) : (Prop) := false = false → false = false → f21_16 v = false → f21_19 v = false → (0:Int) ≤ (0:Int) ∧ (0:Int) < (4:Int) ∧ (0:Nat) < (4:Nat)
noncomputable def f21_6 (v : V21) : (Prop) := false = false → false = false → f21_16 v = false → f21_19 v = false → (0:Int) ≤ f21_20 v ∧ f21_20 v < (18446744073709551616:Int)
noncomputable def f21_7 (v : V21) : (Prop) := false = false → false = false → f21_16 v = false → f21_19 v = false → f21_21 v = false → (0:Int) ≤ (1:Int) ∧ (1:Int) < (4:Int) ∧ (1:Nat) < (4:Nat)
noncomputable def f21_8 (v : V21) : (Prop) := false = false → false = false → f21_16 v = false → f21_19 v = false → f21_21 v = false → (0:Int) ≤ f21_22 v ∧ f21_22 v < (18446744073709551616:Int)
noncomputable def f21_9 (v : V21) : (Prop) := false = false → false = false → f21_16 v = false → f21_19 v = false → f21_21 v = false → f21_23 v = false → (0:Int) ≤ (2:Int) ∧ (2:Int) < (4:Int) ∧ (2:Nat) < (4:Nat)
noncomputable def f21_10 (v : V21) : (Prop) := false = false → false = false → f21_16 v = false → f21_19 v = false → f21_21 v = false → f21_23 v = false → (0:Int) ≤ f21_24 v ∧ f21_24 v < (18446744073709551616:Int)
noncomputable def f21_11 (v : V21) : (Prop) := false = false → false = false → f21_16 v = false → f21_19 v = false → f21_21 v = false → f21_23 v = false → f21_25 v = false → (0:Int) ≤ (3:Int) ∧ (3:Int) < (4:Int) ∧ (3:Nat) < (4:Nat)
noncomputable def f21_12 (v : V21) : (Prop) := false = false → false = false → f21_16 v = false → f21_19 v = false → f21_21 v = false → f21_23 v = false → f21_25 v = false → (0:Int) ≤ f21_26 v ∧ f21_26 v < (18446744073709551616:Int)
noncomputable def f21_13 (v : V21) : (Prop) := false = false → false = false → f21_16 v = false → f21_19 v = false → f21_21 v = false → f21_23 v = false → f21_25 v = false → f21_27 v = false → pre29 (V29.mk v.at_ (f21_18 v))
noncomputable def f21_14 (v : V21) : (Bool) := cnd (f21_16 v) (cnd (stE (f28_12 (V28.mk v.at_ v.w0 v.w1 v.w2 v.w3)) v.at_ (f21_17 v) == f30_1 v.at_) (f21_28 v) false) (cnd (f21_19 v) (cnd (cnd (stE (f28_12 (V28.mk v.at_ v.w0 v.w1 v.w2 v.w3)) v.at_ (f21_17 v) == (10:Int)) (f21_28 v) false) (!f21_29 v) false) (cnd (f21_21 v) false (cnd (f21_23 v) false (cnd (f21_25 v) false (cnd (f21_27 v) false (cnd (cnd (cnd (cnd (stE (f28_12 (V28.mk v.at_ v.w0 v.w1 v.w2 v.w3)) v.at_ (f21_17 v) == (0:Int)) (f21_29 v) false) (ldE (f21_18 v) v.at_ == (0:Int)) false) ((f21_30 v).k == v.k && ((f21_30 v).a == v.a && ((f21_30 v).b == v.b && ((f21_30 v).r == v.r && ((f21_30 v).g == v.g && ((f21_30 v).s == v.s && ((f21_30 v).m == v.m && true)))))) && ((f21_30 v).x == v.x && ((f21_30 v).p == v.p && ((f21_30 v).d == v.d && true)))) false) (f31_0 v.k v.a v.b v.r v.g v.s v.m v.x v.p v.d == (v.k == (0:Int) && (v.a == (0:Int) && (v.b == (0:Int) && (v.r == (0:Int) && (v.g == (0:Int) && (v.s == (0:Int) && (v.m == (0:Int) && true)))))) && (v.x == (0:Int) && (v.p == (0:Int) && (v.d == (0:Int) && true))))) false))))))
theorem n_f21_5 (v : V21) : f21_5 v := by
  unfold f21_5
  (repeat' first | intro _ | apply And.intro) <;> first | rfl | exact absurd (by assumption) (Nat.not_lt_zero _) | exact scpL_rowSet (by rfl) (by rfl) | exact scpL_rowEl (by kernel_rfl) _ | omega | decide
theorem n_f21_7 (v : V21) : f21_7 v := by
  unfold f21_7
  (repeat' first | intro _ | apply And.intro) <;> first | rfl | exact absurd (by assumption) (Nat.not_lt_zero _) | exact scpL_rowSet (by rfl) (by rfl) | exact scpL_rowEl (by kernel_rfl) _ | omega | decide
theorem n_f21_9 (v : V21) : f21_9 v := by
  unfold f21_9
  (repeat' first | intro _ | apply And.intro) <;> first | rfl | exact absurd (by assumption) (Nat.not_lt_zero _) | exact scpL_rowSet (by rfl) (by rfl) | exact scpL_rowEl (by kernel_rfl) _ | omega | decide
theorem n_f21_11 (v : V21) : f21_11 v := by
  unfold f21_11
  (repeat' first | intro _ | apply And.intro) <;> first | rfl | exact absurd (by assumption) (Nat.not_lt_zero _) | exact scpL_rowSet (by rfl) (by rfl) | exact scpL_rowEl (by kernel_rfl) _ | omega | decide
noncomputable def ff21 (v : V21) : Tr (Fin th.R) := (Tr.need (f21_0 v) (Tr.need (f21_1 v) (Tr.need (f21_2 v) (Tr.need (f21_3 v) (Tr.need (f21_4 v) (Tr.need (f21_5 v) (Tr.need (f21_6 v) (Tr.need (f21_7 v) (Tr.need (f21_8 v) (Tr.need (f21_9 v) (Tr.need (f21_10 v) (Tr.need (f21_11 v) (Tr.need (f21_12 v) (Tr.need (f21_13 v) (Tr.leaf (SV.bool (f21_14 v), List.nil, List.nil))))))))))))))))
noncomputable def f21 (v : V21) : Tr (Fin th.R) := (Tr.need (f21_0 v) (Tr.need (f21_1 v) (Tr.need (f21_2 v) (Tr.need (f21_3 v) (Tr.need (f21_4 v) (Tr.need (f21_6 v) (Tr.need (f21_8 v) (Tr.need (f21_10 v) (Tr.need (f21_12 v) (Tr.need (f21_13 v) (Tr.leaf (SV.bool (f21_14 v), List.nil, []))))))))))))
noncomputable def C21 : CF th.R := fnC d21 ofV21 (f21 )
theorem q21 (v : V21) : (evFn th Try.prog (auto th Try.prog nice21c [] 20) (autoH [] [(15, 5)] [63] [] : Hints th) 21) (A21 v) (H21 v) = some (ff21 v) := by kernel_rfl
theorem qg21 (v : V21) : ((ff21 v).map (setD [])).get = (f21 v).get := by kernel_rfl
theorem qd21 (v : V21) : allD 0 [] (ff21 v) = true := by kernel_rfl
theorem s21 : Sound Try.prog th 21 (C21 ) := fnC_sound (evFn_sound' (T := th) (P := Try.prog) (tbl := (auto th Try.prog nice21c [] 20)) (auto_sound (nice := nice21c) (us := []) nok21c 20) (H := (autoH [] [(15, 5)] [63] [] : Hints th)) (k := 21) (fnLoops ok21)) d21 A21 H21 toV21 (by kernel_rfl) (fun v => by kernel_rfl)
  (fun l v h => by
    unfold ofV21 at h
    split at h
    · cases h; rfl
    · cases h)
  [] (fun v => ⟨ff21 v, q21 v, fun h => by
    unfold f21 at h; unfold ff21
    simp only [Tr.ok, n_f21_5, n_f21_7, n_f21_9, n_f21_11, true_and, and_true, forall_const, implies_true] at h ⊢
    try exact h, qg21 v, qd21 v⟩)
theorem qdd21 (v : V21) : (f21 v).get.2.2 = [] := by
  rw [← qg21, Tr.map_get]; rfl
set_option maxRecDepth 100000
end Go.Sx.M

namespace Go.Sx.M
open Go Go.Sx
def rawS (w0 w1 w2 w3:Int) : Sl := ⟨IntKind.i64.wrap (f102_1 0 4 w0), IntKind.u64.wrap (f102_1 35 27 w0 * 32), IntKind.i64.wrap (f102_1 4 6 w0), IntKind.i64.wrap (f102_1 10 3 w0), IntKind.i64.wrap (f102_1 13 6 w0), IntKind.i64.wrap (f102_1 19 16 w0), w1,
  IntKind.u64.wrap (f102_1 0 27 w2 * 32), IntKind.u64.wrap (f102_1 32 27 w2 * 32), cnd (decide (w3 ≤ 4096)) (IntKind.i64.wrap w3) 0⟩
def okW (w0 w1 w2 w3:Int) : Prop := rightS (rawS w0 w1 w2 w3) = true ∧ wd0 (rawS w0 w1 w2 w3) = w0 ∧ wd1 (rawS w0 w1 w2 w3) = w1 ∧ wd2 (rawS w0 w1 w2 w3) = w2 ∧ wd3 (rawS w0 w1 w2 w3) = w3
theorem rightS_rgt {z : Sl} (h : rightS z = true) : rgt z = true := by
  unfold rightS f34_0 at h
  unfold rgt
  cases hh : f45_1 z.k z.a z.b z.r z.g z.s z.m with
  | true => rfl
  | false => rw [hh] at h; simp [cnd] at h
theorem read_ok {w0 w1 w2 w3 : Int} (hr : rgt (rawS w0 w1 w2 w3) = true) (h0 : wd0 (rawS w0 w1 w2 w3) = w0) : f100_10 w0 w1 = 0 ∧ f100_3 w0 w1 = (rawS w0 w1 w2 w3).k ∧ f100_4 w0 w1 = (rawS w0 w1 w2 w3).a ∧ f100_5 w0 w1 = (rawS w0 w1 w2 w3).b ∧
    f100_6 w0 w1 = (rawS w0 w1 w2 w3).r ∧ f100_7 w0 w1 = (rawS w0 w1 w2 w3).g ∧ f100_8 w0 w1 = (rawS w0 w1 w2 w3).s ∧ f100_9 w0 w1 = (rawS w0 w1 w2 w3).m := by
  have hr : f45_1 (IntKind.i64.wrap (f102_1 0 4 w0)) (IntKind.u64.wrap (f102_1 35 27 w0 * 32)) (IntKind.i64.wrap (f102_1 4 6 w0)) (IntKind.i64.wrap (f102_1 10 3 w0)) (IntKind.i64.wrap (f102_1 13 6 w0)) (IntKind.i64.wrap (f102_1 19 16 w0)) w1 = true := hr
  have h0 : f164_14 (IntKind.i64.wrap (f102_1 0 4 w0)) (IntKind.u64.wrap (f102_1 35 27 w0 * 32)) (IntKind.i64.wrap (f102_1 4 6 w0)) (IntKind.i64.wrap (f102_1 10 3 w0)) (IntKind.i64.wrap (f102_1 13 6 w0)) (IntKind.i64.wrap (f102_1 19 16 w0)) w1 = w0 := h0
  have h2 := (words_at hr).2
  simp only [f100_3, f100_4, f100_5, f100_6, f100_7, f100_8, f100_9, f100_10, h2, h0]
  simp [cnd, rawS]
theorem read_bad {w0 w1 w2 w3 : Int} (h : ¬ (rgt (rawS w0 w1 w2 w3) = true ∧ wd0 (rawS w0 w1 w2 w3) = w0)) : f100_10 w0 w1 = 10 := by
  simp only [f100_10]
  cases hr : f45_1 (IntKind.i64.wrap (f102_1 0 4 w0)) (IntKind.u64.wrap (f102_1 35 27 w0 * 32)) (IntKind.i64.wrap (f102_1 4 6 w0)) (IntKind.i64.wrap (f102_1 10 3 w0)) (IntKind.i64.wrap (f102_1 13 6 w0)) (IntKind.i64.wrap (f102_1 19 16 w0)) w1 with
  | false => rw [(words_no hr).2.2]; rfl
  | true =>
    rw [(words_at hr).2]
    have : f164_14 (IntKind.i64.wrap (f102_1 0 4 w0)) (IntKind.u64.wrap (f102_1 35 27 w0 * 32)) (IntKind.i64.wrap (f102_1 4 6 w0)) (IntKind.i64.wrap (f102_1 10 3 w0)) (IntKind.i64.wrap (f102_1 13 6 w0)) (IntKind.i64.wrap (f102_1 19 16 w0)) w1 ≠ w0 := fun e => h ⟨hr, e⟩
    rw [bne_iff_ne.2 this]
    rfl
theorem ld_raw {M : Mem} {a : Int} (he : f99_0 ⟨a, M⟩ = 0) {w0 w1 w2 w3 : Int} (e0 : M.W (IntKind.u64.wrap (a + 0)) = w0) (e1 : M.W (IntKind.u64.wrap (a + 8)) = w1) (e2 : M.W (IntKind.u64.wrap (a + 16)) = w2) (e3 : M.W (IntKind.u64.wrap (a + 24)) = w3) :
    (okW w0 w1 w2 w3 → ld M a = rawS w0 w1 w2 w3 ∧ ldE M a = 0) ∧ (¬ okW w0 w1 w2 w3 → ld M a = sl0 ∧ ldE M a = 10) := by
  have q0 : f29_30 ⟨a, M⟩ = w0 := e0
  have q1 : f29_31 ⟨a, M⟩ = w1 := e1
  have q2 : f29_32 ⟨a, M⟩ = w2 := e2
  have q3 : f29_33 ⟨a, M⟩ = w3 := e3
  have r0 : f29_36 ⟨a, M⟩ = w0 := e0
  have r1 : f29_37 ⟨a, M⟩ = w1 := e1
  have r2 : f29_52 ⟨a, M⟩ = w2 := e2
  have r3 : f29_34 ⟨a, M⟩ = w3 := e3
  have hd : f29_25 ⟨a, M⟩ = false := by simp [f29_25, he]
  have c35 : f29_35 ⟨a, M⟩ = decide (w3 ≤ 4096) := by simp only [f29_35, r3]
  have d0 : f29_57 ⟨a, M⟩ = (rawS w0 w1 w2 w3).d := by simp only [f29_57, c35, r3, rawS]
  have d1 : f29_54 ⟨a, M⟩ = (rawS w0 w1 w2 w3).x := by simp only [f29_54, cnd_same, f29_53, r2, rawS]
  have d2 : f29_56 ⟨a, M⟩ = (rawS w0 w1 w2 w3).p := by simp only [f29_56, cnd_same, f29_55, r2, rawS]
  simp only [ld, ldE, f29_14, f29_15, f29_16, f29_17, f29_18, f29_19, f29_20, f29_21, f29_22, f29_23, f29_24, hd, d0, d1, d2, f29_39, f29_41, f29_43, f29_45, f29_47, f29_49, f29_51, cnd_same, f29_38, f29_40, f29_42, f29_44, f29_46, f29_48, f29_50, r0, r1, q0, q1, q2, q3]
  by_cases hg : rgt (rawS w0 w1 w2 w3) = true ∧ wd0 (rawS w0 w1 w2 w3) = w0
  · obtain ⟨g1, g2, g3, g4, g5, g6, g7, g8⟩ := read_ok hg.1 hg.2
    rw [g1, g2, g3, g4, g5, g6, g7, g8]
    unfold okW rightS wd0 wd1 wd2 wd3
    generalize rawS w0 w1 w2 w3 = z
    constructor
    · rintro ⟨k1, k2, k3, k4, k5⟩
      rw [k1, k2, k3, k4, k5]
      simp [cnd]
    · intro hn
      have hbad : cnd (cnd ((0:Int) != 0) true (!f34_0 z.k z.a z.b z.r z.g z.s z.m z.x z.p z.d)) true (!(f104_2 z.k z.a z.b z.r z.g z.s z.m z.x z.p z.d == w0 && (f104_3 z.k z.a z.b z.r z.g z.s z.m z.x z.p z.d == w1 &&
            (f104_4 z.k z.a z.b z.r z.g z.s z.m z.x z.p z.d == w2 && (f104_5 z.k z.a z.b z.r z.g z.s z.m z.x z.p z.d == w3 && true))))) = true := by
        cases hc : cnd _ true _ with
        | true => rfl
        | false =>
          refine absurd ?_ hn
          revert hc
          cases f34_0 z.k z.a z.b z.r z.g z.s z.m z.x z.p z.d <;> simp [cnd]
      rw [hbad]
      exact ⟨rfl, rfl⟩
  · have hb := read_bad hg
    rw [hb]
    constructor
    · intro hk
      exact absurd ⟨rightS_rgt hk.1, hk.2.1⟩ hg
    · intro _
      exact ⟨rfl, rfl⟩
end Go.Sx.M

namespace Go.Sx.M
open Go Go.Sx
theorem ld_bad {M : Mem} {a : Int} (he : f99_0 ⟨a, M⟩ ≠ 0) : ld M a = sl0 ∧ ldE M a = f99_0 ⟨a, M⟩ := by
  have hd : f29_25 ⟨a, M⟩ = true := by simp [f29_25, he]
  simp only [ld, ldE, f29_14, f29_15, f29_16, f29_17, f29_18, f29_19, f29_20, f29_21, f29_22, f29_23, f29_24, hd]
  exact ⟨rfl, rfl⟩
def errS (n a:Int) : Int := if a % 32 = 0 then if n ≤ a then 12 else 0 else 13
theorem errS_eq {M : Mem} {a : Int} (h : U64 a) : f99_0 ⟨a, M⟩ = errS M.size a := by
  have e : f125_0 a 5 = decide (a % 32 = 0) := by
    have := aligned_eq (a := a) (n := 5) h.1 h.2 (by omega) (by omega)
    rw [this]
    have : p26 (Int.toNat 5) = 32 := by decide +kernel
    rw [this]
    by_cases hh : a % 32 = 0 <;> simp [hh]
  have e2 : szM M = M.size := rfl
  simp only [f99_0, e, e2, errS]
  by_cases h1 : a % 32 = 0
  · by_cases h2 : M.size ≤ a <;> simp [cnd, h1, h2]
  · simp [cnd, h1]
theorem errS_ok {n a : Int} (h : errS n a = 0) : a % 32 = 0 ∧ a < n := by
  unfold errS at h
  split at h
  · split at h
    · omega
    · omega
  · omega
theorem errS_mk {n a : Int} (h1 : a % 32 = 0) (h2 : a < n) : errS n a = 0 := by
  unfold errS; rw [if_pos h1, if_neg (by omega)]
theorem wr_same {M : Mem} {a x : Int} (h : errI M.size a = 0) : (wrM M a x).W a = x := by
  show cnd (decide (errI M.size a = 0)) (upd M.W a x) M.W a = x
  rw [decide_eq_true h]; exact upd_same ..
theorem wr_other {M : Mem} {a x i : Int} (h : i ≠ a) : (wrM M a x).W i = M.W i := by
  show cnd (decide (errI M.size a = 0)) (upd M.W a x) M.W i = M.W i
  cases decide (errI M.size a = 0)
  · rfl
  · exact upd_other h
theorem four {M : Mem} {a w0 w1 w2 w3 : Int} (h0 : 0 ≤ a) (h1 : a % 32 = 0) (h2 : a < M.size) (h3 : M.size % 32 = 0) (h4 : M.size ≤ 4294967296) :
    let N := wrM (wrM (wrM (wrM M (IntKind.u64.wrap (a + 0)) w0) (IntKind.u64.wrap (a + 8)) w1) (IntKind.u64.wrap (a + 16)) w2) (IntKind.u64.wrap (a + 24)) w3
    N.W a = w0 ∧ N.W (a + 8) = w1 ∧ N.W (a + 16) = w2 ∧ N.W (a + 24) = w3 ∧ ∀ i, i ≠ a → i ≠ a + 8 → i ≠ a + 16 → i ≠ a + 24 → N.W i = M.W i := by
  intro N
  have e0 : IntKind.u64.wrap (a + 0) = a := by rw [wrap_u64_id (by omega) (by omega)]; omega
  have e8 : IntKind.u64.wrap (a + 8) = a + 8 := wrap_u64_id (by omega) (by omega)
  have e16 : IntKind.u64.wrap (a + 16) = a + 16 := wrap_u64_id (by omega) (by omega)
  have e24 : IntKind.u64.wrap (a + 24) = a + 24 := wrap_u64_id (by omega) (by omega)
  have k0 : errI M.size a = 0 := errI_ok (by omega) (by omega)
  have k8 : errI M.size (a + 8) = 0 := errI_ok (by omega) (by omega)
  have k16 : errI M.size (a + 16) = 0 := errI_ok (by omega) (by omega)
  have k24 : errI M.size (a + 24) = 0 := errI_ok (by omega) (by omega)
  have hN : N = wrM (wrM (wrM (wrM M a w0) (a + 8) w1) (a + 16) w2) (a + 24) w3 := by show wrM _ _ _ = _; rw [e0, e8, e16, e24]
  rw [hN]
  refine ⟨?_, ?_, ?_, ?_, fun i i0 i1 i2 i3 => ?_⟩
  · rw [wr_other (by omega), wr_other (by omega), wr_other (by omega)]; exact wr_same k0
  · rw [wr_other (by omega), wr_other (by omega)]; exact wr_same k8
  · rw [wr_other (by omega)]; exact wr_same k16
  · exact wr_same k24
  · rw [wr_other i3, wr_other i2, wr_other i1, wr_other i0]
end Go.Sx.M

namespace Go.Sx.M
open Go Go.Sx
theorem raw_wd {z : Sl} (h : SlR z) (hs : rightS z = true) : rawS (wd0 z) (wd1 z) (wd2 z) (wd3 z) = z := by
  obtain ⟨hr, ⟨x1, x2⟩, ⟨p1, p2⟩, d1, d2⟩ := (rightS_iff h).1 hs
  have hr2 := rgt2 h hr
  have e3 : wd3 z = z.d := by
    have : wd3 z = IntKind.u64.wrap z.d := rfl
    rw [this, wrap_u64_id (by omega) (by omega)]
  have x0 := h.x.1
  have p0 := h.p.1
  obtain ⟨x, hx⟩ : ∃ n : Nat, z.x / 32 = n := ⟨(z.x / 32).toNat, by omega⟩
  obtain ⟨q, hq⟩ : ∃ n : Nat, z.p / 32 = n := ⟨(z.p / 32).toNat, by omega⟩
  have e2 : wd2 z = ((x + q * 4294967296:Nat):Int) := by rw [wd2_eq h x1 p1, hx, hq]; simp
  obtain ⟨l1, l2⟩ := links_back (x := x) (q := q) (by omega) (by omega)
  have hr' : f45_1 z.k z.a z.b z.r z.g z.s z.m = true := hr
  obtain ⟨w1, w2⟩ := word_right h.a.1 h.a.2 hr2 hr'
  obtain ⟨hk, hb, hrr, hg, hss, hal, hmod⟩ := right_ranges h.a.1 h.a.2 hr2 hr'
  obtain ⟨m1, m2⟩ := words_at hr'
  have ha := h.a.1
  obtain ⟨g1, g2, g3, g4, g5, g6⟩ := word_get (k := z.k.toNat) (b := z.b.toNat) (r := z.r.toNat) (g := z.g.toNat) (s := z.s.toNat) (q := (z.a / 32).toNat) (by omega) (by omega) (by omega) (by omega) (by omega) (by omega)
  have c1 : IntKind.i64.wrap ((z.k.toNat:Nat):Int) = z.k := by rw [wrap_i64 (by omega) (by omega)]; omega
  have c2 : IntKind.i64.wrap ((z.b.toNat:Nat):Int) = z.b := by rw [wrap_i64 (by omega) (by omega)]; omega
  have c3 : IntKind.i64.wrap ((z.r.toNat:Nat):Int) = z.r := by rw [wrap_i64 (by omega) (by omega)]; omega
  have c4 : IntKind.i64.wrap ((z.g.toNat:Nat):Int) = z.g := by rw [wrap_i64 (by omega) (by omega)]; omega
  have c5 : IntKind.i64.wrap ((z.s.toNat:Nat):Int) = z.s := by rw [wrap_i64 (by omega) (by omega)]; omega
  have c6 : IntKind.u64.wrap ((((z.a / 32).toNat:Nat):Int) * 32) = z.a := by rw [wrap_u64_id (by omega) (by omega)]; omega
  have c7 : IntKind.u64.wrap (((x:Nat):Int) * 32) = z.x := by rw [wrap_u64_id (by omega) (by omega)]; omega
  have c8 : IntKind.u64.wrap (((q:Nat):Int) * 32) = z.p := by rw [wrap_u64_id (by omega) (by omega)]; omega
  have e0 : wd0 z = wordN z.k.toNat z.b.toNat z.r.toNat z.g.toNat z.s.toNat (z.a / 32).toNat := w1
  have e1 := wd1_eq hr
  have d3 : IntKind.i64.wrap z.d = z.d := wrap_i64 (by omega) (by omega)
  rw [e0, e1, e2, e3]
  simp only [rawS, g1, g2, g3, g4, g5, g6, l1, l2, c1, c2, c3, c4, c5, c6, c7, c8, d3, decide_eq_true d2, cnd]
theorem okW_wd {z : Sl} (h : SlR z) (hs : rightS z = true) : okW (wd0 z) (wd1 z) (wd2 z) (wd3 z) := by
  unfold okW
  rw [raw_wd h hs]
  exact ⟨hs, rfl, rfl, rfl, rfl⟩
def slOK (n a:Int) : Prop := 0 ≤ a ∧ a % 32 = 0 ∧ a < n
structure Enc (M : Mem) (σ : Int → Sl) : Prop where
  s0 : M.size % 32 = 0
  s1 : 0 < M.size
  s2 : M.size ≤ 4294967296
  ok : ∀ a, slOK M.size a → SlR (σ a) ∧ rightS (σ a) = true
  w : ∀ a, slOK M.size a → M.W a = wd0 (σ a) ∧ M.W (a + 8) = wd1 (σ a) ∧ M.W (a + 16) = wd2 (σ a) ∧ M.W (a + 24) = wd3 (σ a)
def setA (σ : Int → Sl) (a:Int) (z : Sl) : Int → Sl := fun i => if i = a then z else σ i
theorem setA_same {σ : Int → Sl} {a : Int} {z : Sl} : setA σ a z a = z := if_pos rfl
theorem setA_other {σ : Int → Sl} {a i : Int} {z : Sl} (h : i ≠ a) : setA σ a z i = σ i := if_neg h
theorem Enc.ld {M : Mem} {σ : Int → Sl} (E : Enc M σ) {a : Int} (h : slOK M.size a) : ld M a = σ a ∧ ldE M a = 0 := by
  obtain ⟨h0, h1, h2⟩ := h
  have hn := E.s2
  have e0 : IntKind.u64.wrap (a + 0) = a := by rw [wrap_u64_id (by omega) (by omega)]; omega
  have e8 : IntKind.u64.wrap (a + 8) = a + 8 := wrap_u64_id (by omega) (by omega)
  have e16 : IntKind.u64.wrap (a + 16) = a + 16 := wrap_u64_id (by omega) (by omega)
  have e24 : IntKind.u64.wrap (a + 24) = a + 24 := wrap_u64_id (by omega) (by omega)
  obtain ⟨k1, k2⟩ := E.ok a ⟨h0, h1, h2⟩
  obtain ⟨w0, w1, w2, w3⟩ := E.w a ⟨h0, h1, h2⟩
  have he : f99_0 ⟨a, M⟩ = 0 := by rw [errS_eq ⟨h0, by omega⟩]; exact errS_mk h1 h2
  obtain ⟨g1, g2⟩ := (ld_raw he (by rw [e0]; exact w0) (by rw [e8]; exact w1) (by rw [e16]; exact w2) (by rw [e24]; exact w3)).1 (okW_wd k1 k2)
  rw [raw_wd k1 k2] at g1
  exact ⟨g1, g2⟩
theorem ld_not {M : Mem} {a : Int} (hu : U64 a) (h : ¬ slOK M.size a) : ld M a = sl0 ∧ ldE M a = errS M.size a ∧ errS M.size a ≠ 0 := by
  have he : f99_0 ⟨a, M⟩ = errS M.size a := errS_eq hu
  have hne : errS M.size a ≠ 0 := by
    intro e
    obtain ⟨a1, a2⟩ := errS_ok e
    exact h ⟨hu.1, a1, a2⟩
  obtain ⟨b1, b2⟩ := ld_bad (M := M) (a := a) (by rw [he]; exact hne)
  exact ⟨b1, by rw [b2, he], hne⟩
theorem stE_any {M : Mem} {a : Int} {z : Sl} : stE M a z = cnd (f99_0 ⟨a, M⟩ != 0) (f99_0 ⟨a, M⟩) (cnd (!rightS z) 10 0) := rfl
theorem Enc.st {M : Mem} {σ : Int → Sl} (E : Enc M σ) {a : Int} {z : Sl} (h : slOK M.size a) (hz : SlR z) (hr : rightS z = true) : Enc (stM M a z) (setA σ a z) ∧ stE M a z = 0 ∧ (stM M a z).size = M.size := by
  obtain ⟨h0, h1, h2⟩ := h
  have hn := E.s2
  have he : f99_0 ⟨a, M⟩ = 0 := by rw [errS_eq ⟨h0, by omega⟩]; exact errS_mk h1 h2
  have hr' : f34_0 z.k z.a z.b z.r z.g z.s z.m z.x z.p z.d = true := hr
  have k10 : f91_10 ⟨a, z.k, z.a, z.b, z.r, z.g, z.s, z.m, z.x, z.p, z.d, M⟩ = false := by simp [f91_10, he]
  have k11 : f91_11 ⟨a, z.k, z.a, z.b, z.r, z.g, z.s, z.m, z.x, z.p, z.d, M⟩ = false := by simp [f91_11, hr']
  have hN : stM M a z = wrM (wrM (wrM (wrM M (IntKind.u64.wrap (a + 0)) (wd0 z)) (IntKind.u64.wrap (a + 8)) (wd1 z)) (IntKind.u64.wrap (a + 16)) (wd2 z)) (IntKind.u64.wrap (a + 24)) (wd3 z) := by
    show mrgM (f91_10 _) M (mrgM (f91_11 _) M _) = _
    rw [k10, k11]
    rfl
  obtain ⟨f0, f8, f16, f24, fo⟩ := four (M := M) (a := a) (w0 := wd0 z) (w1 := wd1 z) (w2 := wd2 z) (w3 := wd3 z) h0 h1 h2 E.s0 hn
  rw [← hN] at f0 f8 f16 f24 fo
  have hsz : (stM M a z).size = M.size := by rw [hN]; rfl
  refine ⟨⟨by rw [hsz]; exact E.s0, by rw [hsz]; exact E.s1, by rw [hsz]; exact hn, ?_, ?_⟩, ?_, hsz⟩
  · intro i hi
    rw [hsz] at hi
    by_cases e : i = a
    · subst e; rw [setA_same]; exact ⟨hz, hr⟩
    · rw [setA_other e]; exact E.ok i hi
  · intro i hi
    rw [hsz] at hi
    by_cases e : i = a
    · subst e; rw [setA_same]; exact ⟨f0, f8, f16, f24⟩
    · rw [setA_other e]
      obtain ⟨i0, i1, i2⟩ := hi
      obtain ⟨w0, w1, w2, w3⟩ := E.w i ⟨i0, i1, i2⟩
      refine ⟨?_, ?_, ?_, ?_⟩
      · rw [fo _ (by omega) (by omega) (by omega) (by omega)]; exact w0
      · rw [fo _ (by omega) (by omega) (by omega) (by omega)]; exact w1
      · rw [fo _ (by omega) (by omega) (by omega) (by omega)]; exact w2
      · rw [fo _ (by omega) (by omega) (by omega) (by omega)]; exact w3
  · rw [stE_any, he, hr]; rfl
theorem sl0_right : rightS sl0 = true := by decide +kernel
theorem Enc.new {n : Int} (h0 : n % 32 = 0) (h1 : 0 < n) (h2 : n ≤ 4294967296) : Enc (newM n) (fun _ => sl0) := by
  have e0 : wd0 sl0 = 0 := by decide +kernel
  have e1 : wd1 sl0 = 0 := by decide +kernel
  have e2 : wd2 sl0 = 0 := by decide +kernel
  have e3 : wd3 sl0 = 0 := by decide +kernel
  refine ⟨h0, h1, h2, fun a _ => ⟨sl0_R, sl0_right⟩, fun a _ => ?_⟩
  rw [e0, e1, e2, e3]
  exact ⟨rfl, rfl, rfl, rfl⟩
def lnk (y:Int) : Prop := 0 ≤ y ∧ y < 4294967296 ∧ y % 32 = 0
theorem right_x {z : Sl} (h : SlR z) (hr : rightS z = true) {y : Int} (hy : lnk y) : SlR { z with x := y } ∧ rightS { z with x := y } = true := by
  have h2 : SlR { z with x := y } := h.setX ⟨hy.1, by have := hy.2.1; omega⟩
  obtain ⟨q1, q2, q3, q4⟩ := (rightS_iff h).1 hr
  exact ⟨h2, (rightS_iff h2).2 ⟨q1, ⟨hy.2.1, hy.2.2⟩, q3, q4⟩⟩
theorem right_p {z : Sl} (h : SlR z) (hr : rightS z = true) {y : Int} (hy : lnk y) : SlR { z with p := y } ∧ rightS { z with p := y } = true := by
  have h2 : SlR { z with p := y } := h.setP ⟨hy.1, by have := hy.2.1; omega⟩
  obtain ⟨q1, q2, q3, q4⟩ := (rightS_iff h).1 hr
  exact ⟨h2, (rightS_iff h2).2 ⟨q1, q2, ⟨hy.2.1, hy.2.2⟩, q4⟩⟩
def xA (σ : Int → Sl) (a y:Int) : Int → Sl := if a = 0 then σ else setA σ a { σ a with x := y }
def pA (σ : Int → Sl) (a y:Int) : Int → Sl := if a = 0 then σ else setA σ a { σ a with p := y }
def tieA (σ : Int → Sl) (a b:Int) : Int → Sl := pA (xA σ a b) b a
theorem mrgM_f (A B : Mem) : mrgM false A B = B := rfl
theorem mrgM_t (A B : Mem) : mrgM true A B = A := rfl
theorem Enc.tX {M : Mem} {σ : Int → Sl} (E : Enc M σ) {a y : Int} (h : a = 0 ∨ slOK M.size a) (hy : lnk y) : Enc (tX M a y) (xA σ a y) ∧ (tX M a y).size = M.size := by
  by_cases e : a = 0
  · subst e
    exact ⟨E, rfl⟩
  · have hb : (a == 0) = false := beq_eq_false_iff_ne.2 e
    have h := h.resolve_left e
    obtain ⟨k1, k2⟩ := E.ok a h
    obtain ⟨r1, r2⟩ := right_x k1 k2 hy
    have hl := (E.ld h).1
    unfold Go.Sx.M.tX xA
    rw [hb, mrgM_f, if_neg e, hl]
    obtain ⟨s1, _, s3⟩ := E.st h r1 r2
    exact ⟨s1, s3⟩
theorem Enc.tP {M : Mem} {σ : Int → Sl} (E : Enc M σ) {a y : Int} (h : a = 0 ∨ slOK M.size a) (hy : lnk y) : Enc (tP M a y) (pA σ a y) ∧ (tP M a y).size = M.size := by
  by_cases e : a = 0
  · subst e
    exact ⟨E, rfl⟩
  · have hb : (a == 0) = false := beq_eq_false_iff_ne.2 e
    have h := h.resolve_left e
    obtain ⟨k1, k2⟩ := E.ok a h
    obtain ⟨r1, r2⟩ := right_p k1 k2 hy
    have hl := (E.ld h).1
    unfold Go.Sx.M.tP pA
    rw [hb, mrgM_f, if_neg e, hl]
    obtain ⟨s1, _, s3⟩ := E.st h r1 r2
    exact ⟨s1, s3⟩
theorem slOK.lnk {n a : Int} (h : slOK n a) (hn : n ≤ 4294967296) : lnk a := ⟨h.1, by have := h.2.2; omega, h.2.1⟩
theorem Enc.tie {M : Mem} {σ : Int → Sl} (E : Enc M σ) {a b : Int} (ha : a = 0 ∨ slOK M.size a) (hb : b = 0 ∨ slOK M.size b) : Enc (tieM M a b) (tieA σ a b) ∧ (tieM M a b).size = M.size := by
  have la : lnk a := ha.elim (fun e => by subst e; exact ⟨by omega, by omega, rfl⟩) fun h => h.lnk E.s2
  have lb : lnk b := hb.elim (fun e => by subst e; exact ⟨by omega, by omega, rfl⟩) fun h => h.lnk E.s2
  obtain ⟨E1, z1⟩ := E.tX ha lb
  obtain ⟨E2, z2⟩ := E1.tP (a := b) (y := a) (by rw [z1]; exact hb) la
  exact ⟨E2, z2.trans z1⟩
end Go.Sx.M

namespace Go.Sx.M
open Go Go.Sx
/-! Nodes in a row, each one's links in its slot. -/
def hdA : List Nd → Int → Int
  | [], n => n
  | x :: _, _ => x.t
def lsA : List Nd → Int → Int
  | [], p => p
  | x :: l, _ => lsA l x.t
def sN (x : Nd) (nx pv:Int) : Sl := ⟨x.k, x.a, x.b, x.r, x.g, x.s, x.m, nx, pv, x.d⟩
def DL (σ : Int → Sl) : Int → List Nd → Int → Prop
  | _, [], _ => True
  | p, x :: l, n => σ x.t = sN x (hdA l n) p ∧ DL σ x.t l n
theorem hdA_app (l1 l2 : List Nd) (n:Int) : hdA (l1 ++ l2) n = hdA l1 (hdA l2 n) := by cases l1 <;> rfl
theorem lsA_app : ∀ (l1 l2 : List Nd) (p:Int), lsA (l1 ++ l2) p = lsA l2 (lsA l1 p)
  | [], _, _ => rfl
  | x :: l1, l2, p => lsA_app l1 l2 x.t
theorem DL_app {σ : Int → Sl} : ∀ {l1 l2 : List Nd} {p n : Int}, DL σ p (l1 ++ l2) n ↔ DL σ p l1 (hdA l2 n) ∧ DL σ (lsA l1 p) l2 n
  | [], l2, p, n => by simp [DL, lsA]
  | x :: l1, l2, p, n => by
    simp only [List.cons_append, DL, lsA]
    rw [DL_app, hdA_app]
    constructor
    · rintro ⟨a, b, c⟩; exact ⟨⟨a, b⟩, c⟩
    · rintro ⟨⟨a, b⟩, c⟩; exact ⟨a, b, c⟩
theorem DL_congr {σ τ : Int → Sl} : ∀ {l : List Nd} {p n : Int}, (∀ x, x ∈ l → τ x.t = σ x.t) → DL σ p l n → DL τ p l n
  | [], _, _, _, _ => trivial
  | x :: l, p, n, h, ⟨a, b⟩ => ⟨by rw [h x List.mem_cons_self]; exact a, DL_congr (fun y hy => h y (List.mem_cons_of_mem _ hy)) b⟩
def tA (l : List Nd) : List Int := l.map Nd.t
theorem mem_tA {l : List Nd} {a : Int} : a ∈ tA l ↔ ∃ x, x ∈ l ∧ x.t = a := by simp [tA]
theorem lsA_mem : ∀ {l : List Nd} {p : Int}, l ≠ [] → lsA l p ∈ tA l
  | [], _, h => absurd rfl h
  | [x], _, _ => by simp [lsA, tA]
  | x :: y :: l, p, _ => List.mem_cons_of_mem _ (lsA_mem (l := y :: l) (p := x.t) (by simp))
theorem hdA_mem {l : List Nd} {n : Int} (h : l ≠ []) : hdA l n ∈ tA l := by
  cases l with
  | nil => exact absurd rfl h
  | cons x l => simp [hdA, tA]
theorem lsA_p {l : List Nd} {p q : Int} (h : l ≠ []) : lsA l p = lsA l q := by
  cases l with
  | nil => exact absurd rfl h
  | cons x l => rfl
theorem DL_last {σ : Int → Sl} {n' : Int} : ∀ {l : List Nd} {p n : Int}, l ≠ [] → (tA l).Nodup → DL σ p l n → DL (setA σ (lsA l 0) { σ (lsA l 0) with x := n' }) p l n'
  | [], _, _, h, _, _ => absurd rfl h
  | [x], p, n, _, _, ⟨a, _⟩ => by
    refine ⟨?_, trivial⟩
    show setA σ x.t { σ x.t with x := n' } x.t = _
    rw [setA_same, a]
    rfl
  | x :: y :: l, p, n, _, hd, ⟨a, b⟩ => by
    have hd' : x.t ∉ tA (y :: l) ∧ (tA (y :: l)).Nodup := List.nodup_cons.1 hd
    have hm : lsA (y :: l) 0 ∈ tA (y :: l) := lsA_mem (by simp)
    have hne : x.t ≠ lsA (y :: l) 0 := fun e => hd'.1 (by rw [e]; exact hm)
    refine ⟨?_, DL_last (l := y :: l) (by simp) hd'.2 b⟩
    show setA σ (lsA (y :: l) 0) _ x.t = _
    rw [setA_other hne]
    exact a
theorem DL_first {σ : Int → Sl} {p' : Int} {x : Nd} {l : List Nd} {p n : Int} (hd : (tA (x :: l)).Nodup) (h : DL σ p (x :: l) n) : DL (setA σ x.t { σ x.t with p := p' }) p' (x :: l) n := by
  obtain ⟨a, b⟩ := h
  have hd' : x.t ∉ tA l ∧ (tA l).Nodup := List.nodup_cons.1 hd
  refine ⟨?_, DL_congr (fun y hy => setA_other fun e => hd'.1 (by rw [← e]; exact mem_tA.2 ⟨y, hy, rfl⟩)) b⟩
  rw [setA_same, a]
  rfl
theorem xA_other {σ : Int → Sl} {a y c : Int} (h : c ≠ a ∨ a = 0) : xA σ a y c = σ c := by
  unfold xA
  split
  · rfl
  · exact setA_other (h.elim id fun e => absurd e (by assumption))
theorem pA_other {σ : Int → Sl} {a y c : Int} (h : c ≠ a ∨ a = 0) : pA σ a y c = σ c := by
  unfold pA
  split
  · rfl
  · exact setA_other (h.elim id fun e => absurd e (by assumption))
theorem tieA_other {σ : Int → Sl} {a b c : Int} (h1 : c ≠ a ∨ a = 0) (h2 : c ≠ b ∨ b = 0) : tieA σ a b c = σ c := by
  unfold tieA
  rw [pA_other h2, xA_other h1]
theorem DL_out {σ : Int → Sl} {a b : Int} {l : List Nd} {p n : Int} (h1 : a ∉ tA l) (h2 : b ∉ tA l) (h : DL σ p l n) : DL (tieA σ a b) p l n :=
  DL_congr (fun x hx => tieA_other (.inl fun e => h1 (by rw [← e]; exact mem_tA.2 ⟨x, hx, rfl⟩)) (.inl fun e => h2 (by rw [← e]; exact mem_tA.2 ⟨x, hx, rfl⟩))) h
theorem DL_left {σ : Int → Sl} {a b : Int} {l : List Nd} {p n : Int} (hne : l ≠ []) (ha : lsA l 0 = a) (h0 : (0:Int) ∉ tA l) (hd : (tA l).Nodup) (h2 : b ∉ tA l) (h : DL σ p l n) : DL (tieA σ a b) p l b := by
  have hm : a ∈ tA l := by rw [← ha]; exact lsA_mem hne
  have ha0 : a ≠ 0 := fun e => h0 (by rw [← e]; exact hm)
  refine DL_congr (σ := xA σ a b) (fun x hx => pA_other (.inl fun e => h2 (by rw [← e]; exact mem_tA.2 ⟨x, hx, rfl⟩))) ?_
  unfold xA
  rw [if_neg ha0, ← ha]
  exact DL_last hne hd h
theorem DL_right {σ : Int → Sl} {a b : Int} {l : List Nd} {p n : Int} (hne : l ≠ []) (hb : hdA l 0 = b) (h0 : (0:Int) ∉ tA l) (hd : (tA l).Nodup) (h1 : a ∉ tA l) (h : DL σ p l n) : DL (tieA σ a b) a l n := by
  cases l with
  | nil => exact absurd rfl hne
  | cons x l =>
    have hb : x.t = b := hb
    subst hb
    have hb0 : x.t ≠ 0 := fun e => h0 (by rw [← e]; simp [tA])
    unfold tieA pA
    rw [if_neg hb0]
    refine DL_first hd (p := p) (DL_congr (fun y hy => xA_other (.inl fun e => h1 (by rw [← e]; exact mem_tA.2 ⟨y, hy, rfl⟩))) h)
theorem tA_app (l1 l2 : List Nd) : tA (l1 ++ l2) = tA l1 ++ tA l2 := List.map_append ..
theorem join2 {σ : Int → Sl} {l1 l2 : List Nd} {n p m : Int} (hd : (tA (l1 ++ l2)).Nodup) (h0 : (0:Int) ∉ tA (l1 ++ l2)) (hm : l2 = [] → m = 0) (h1 : DL σ 0 l1 n) (h2 : DL σ p l2 m) : DL (tieA σ (lsA l1 0) (hdA l2 0)) 0 (l1 ++ l2) m := by
  rw [tA_app] at hd h0
  obtain ⟨d1, d2, d3⟩ := List.nodup_append.1 hd
  have z1 : (0:Int) ∉ tA l1 := fun h => h0 (List.mem_append_left _ h)
  have z2 : (0:Int) ∉ tA l2 := fun h => h0 (List.mem_append_right _ h)
  rw [DL_app]
  by_cases e1 : l1 = []
  · subst e1
    refine ⟨trivial, ?_⟩
    by_cases e2 : l2 = []
    · subst e2; exact trivial
    · exact DL_right e2 rfl z2 d2 z2 h2
  · have m1 : lsA l1 0 ∈ tA l1 := lsA_mem e1
    by_cases e2 : l2 = []
    · subst e2
      rw [hm rfl]
      exact ⟨DL_left e1 rfl z1 d1 z1 h1, trivial⟩
    · have m2 : hdA l2 0 ∈ tA l2 := hdA_mem e2
      have e3 : hdA l2 m = hdA l2 0 := by cases l2 with
        | nil => exact absurd rfl e2
        | cons _ _ => rfl
      rw [e3]
      exact ⟨DL_left e1 rfl z1 d1 (fun h => d3 _ h _ m2 rfl) h1, DL_right e2 rfl z2 d2 (fun h => d3 _ m1 _ h rfl) h2⟩
theorem join3 {σ : Int → Sl} {l1 l2 : List Nd} {x : Nd} {n1 p n p2 : Int} (hd : (tA (l1 ++ x :: l2)).Nodup) (h0 : (0:Int) ∉ tA (l1 ++ x :: l2)) (h1 : DL σ 0 l1 n1) (hx : DL σ p [x] n) (h2 : DL σ p2 l2 0) :
    DL (tieA (tieA σ (lsA l1 0) x.t) x.t (hdA l2 0)) 0 (l1 ++ x :: l2) 0 := by
  have hd2 : (tA ((l1 ++ [x]) ++ l2)).Nodup := by simpa using hd
  have h02 : (0:Int) ∉ tA ((l1 ++ [x]) ++ l2) := by simpa using h0
  have hd3 := hd2
  have h03 := h02
  rw [tA_app] at hd3 h03
  obtain ⟨d1, d2, d3⟩ := List.nodup_append.1 hd3
  have z1 : (0:Int) ∉ tA (l1 ++ [x]) := fun h => h03 (List.mem_append_left _ h)
  have z2 : (0:Int) ∉ tA l2 := fun h => h03 (List.mem_append_right _ h)
  have mx : x.t ∈ tA (l1 ++ [x]) := by rw [tA_app]; exact List.mem_append_right _ (by simp [tA])
  have k1 : DL (tieA σ (lsA l1 0) x.t) 0 (l1 ++ [x]) n := join2 (l2 := [x]) d1 z1 (fun e => by cases e) h1 hx
  have ma : lsA l1 0 ∉ tA l2 := by
    by_cases e1 : l1 = []
    · subst e1; exact z2
    · intro h
      exact d3 _ (by rw [tA_app]; exact List.mem_append_left _ (lsA_mem e1)) _ h rfl
  have k2 : DL (tieA σ (lsA l1 0) x.t) p2 l2 0 := DL_out ma (fun h => d3 _ mx _ h rfl) h2
  have k3 := join2 hd2 h02 (fun _ => rfl) k1 k2
  have el : lsA (l1 ++ [x]) 0 = x.t := by rw [lsA_app]; rfl
  rw [el] at k3
  simpa using k3
end Go.Sx.M

namespace Go.Sx.M
open Go Go.Sx
theorem right_eqS {z : Sl} (h : SlR z) : f45_1 z.k z.a z.b z.r z.g z.s z.m = f50_2 z.k z.a z.b z.r z.g z.s z.m := right_eq h.a.1 h.a.2 h.b h.m.1 h.m.2 h.g.2
structure NdOk (n:Int) (x : Nd) : Prop where
  at_ : slOK n x.t
  nz : x.t ≠ 0
  k : x.k ≠ 0
  R : SlR (slN x)
  r : rgt (slN x) = true
  d0 : 0 ≤ x.d
  d1 : x.d ≤ 4096
theorem sN_ok {n : Int} {x : Nd} (h : NdOk n x) {a b : Int} (ha : lnk a) (hb : lnk b) : SlR (sN x a b) ∧ rightS (sN x a b) = true := by
  have h2 : SlR (sN x a b) := ⟨h.R.k, h.R.a, h.R.b, h.R.r, h.R.g, h.R.s, h.R.m, ⟨ha.1, by have := ha.2.1; show a < 18446744073709551616; omega⟩, ⟨hb.1, by have := hb.2.1; show b < 18446744073709551616; omega⟩, ⟨by have := h.d0; show -9223372036854775808 ≤ x.d; omega, by have := h.d1; show x.d < 9223372036854775808; omega⟩⟩
  exact ⟨h2, (rightS_iff h2).2 ⟨h.r, ⟨ha.2.1, ha.2.2⟩, ⟨hb.2.1, hb.2.2⟩, h.d0, h.d1⟩⟩
structure RepS (t : TS) (l : List Nd) (σ : Int → Sl) : Prop where
  E : Enc t.M σ
  f : t.f = hdA l 0
  c : t.c = l.length
  nd : (tA l).Nodup
  ok : ∀ x, x ∈ l → NdOk t.M.size x
  dl : DL σ 0 l 0
  out : ∀ a, a ∉ tA l → slOK t.M.size a → σ a = sl0
theorem RepS.z0 {t : TS} {l : List Nd} {σ : Int → Sl} (h : RepS t l σ) : (0:Int) ∉ tA l := fun e => by
  obtain ⟨x, hx, hz⟩ := mem_tA.1 e
  exact (h.ok x hx).nz hz
theorem DL_mem {σ : Int → Sl} : ∀ {l : List Nd} {p n : Int} {x : Nd}, DL σ p l n → x ∈ l → ∃ a b, σ x.t = sN x a b
  | [], _, _, _, _, h => by cases h
  | y :: l, p, n, x, ⟨a, b⟩, h => by
    rcases List.mem_cons.1 h with rfl | h
    · exact ⟨_, _, a⟩
    · exact DL_mem b h
theorem fnd_spec {l : List Nd} (hd : (tA l).Nodup) (a:Int) : (∃ i : Nat, i < l.length ∧ (gN l i).t = a ∧ fnd l a = i ∧ gN l i ∈ l ∧ l = l.take i ++ gN l i :: l.drop (i + 1)) ∨ (a ∉ tA l ∧ fnd l a = -1) := by
  have e := nds_gN l
  rcases fnd_cases (gN l) l.length a with ⟨i, h1, h2, _, h4⟩ | ⟨h1, h2⟩
  · rw [e] at h4
    have hg : gN l i = l[i] := by simp [gN, List.getD, List.getElem?_eq_getElem h1]
    refine .inl ⟨i, h1, h2, h4, by rw [hg]; exact List.getElem_mem h1, ?_⟩
    rw [hg, List.getElem_cons_drop h1, List.take_append_drop]
  · rw [e] at h2
    refine .inr ⟨fun hm => ?_, h2⟩
    obtain ⟨x, hx, rfl⟩ := mem_tA.1 hm
    obtain ⟨i, hi, rfl⟩ := List.getElem_of_mem hx
    exact h1 i hi (by simp [gN, List.getD, List.getElem?_eq_getElem hi])
theorem mayT_eq {n a : Int} (h : 0 ≤ a) : mayT n a = errS n a := by
  unfold mayT errS
  rw [Int.tmod_eq_emod_of_nonneg h]
  by_cases h1 : a % 32 = 0
  · by_cases h2 : n ≤ a <;> simp [cnd_eq, h1, h2]
  · simp [cnd_eq, h1]
theorem mayT_ok {n a : Int} (h : 0 ≤ a) : mayT n a = 0 ↔ slOK n a := by
  rw [mayT_eq h]
  exact ⟨fun e => ⟨h, (errS_ok e).1, (errS_ok e).2⟩, fun e => errS_mk e.2.1 e.2.2⟩
theorem RepS.ld {t : TS} {l : List Nd} {σ : Int → Sl} (h : RepS t l σ) {a : Int} (hu : U64 a) :
    (slOK t.M.size a ∧ mayT t.M.size a = 0 ∧ ldE t.M a = 0 ∧ ld t.M a = σ a ∧ ((∃ i : Nat, i < l.length ∧ (gN l i).t = a ∧ fnd l a = i ∧ gN l i ∈ l ∧ l = l.take i ++ gN l i :: l.drop (i + 1)) ∨ (a ∉ tA l ∧ fnd l a = -1 ∧ σ a = sl0))) ∨
      (¬ slOK t.M.size a ∧ mayT t.M.size a ≠ 0 ∧ ldE t.M a = mayT t.M.size a ∧ ld t.M a = sl0 ∧ fnd l a = -1 ∧ a ∉ tA l) := by
  by_cases hs : slOK t.M.size a
  · obtain ⟨h1, h2⟩ := h.E.ld hs
    refine .inl ⟨hs, (mayT_ok hu.1).2 hs, h2, h1, ?_⟩
    rcases fnd_spec h.nd a with q | ⟨q1, q2⟩
    · exact .inl q
    · exact .inr ⟨q1, q2, h.out a q1 hs⟩
  · obtain ⟨h1, h2, h3⟩ := ld_not (M := t.M) hu hs
    have hm : a ∉ tA l := fun e => by
      obtain ⟨x, hx, rfl⟩ := mem_tA.1 e
      exact hs (h.ok x hx).at_
    refine .inr ⟨hs, fun e => hs ((mayT_ok hu.1).1 e), by rw [h2, mayT_eq hu.1], h1, ?_, hm⟩
    rcases fnd_spec h.nd a with ⟨i, _, q2, _, q4, _⟩ | ⟨_, q2⟩
    · exact absurd (mem_tA.2 ⟨_, q4, q2⟩) hm
    · exact q2
theorem RepS.hdE {t : TS} {l : List Nd} {σ : Int → Sl} (h : RepS t l σ) {a : Int} (hu : U64 a) : hdE t.M a = hdT t.M.size l a := by
  unfold Go.Sx.M.hdE hdT
  rcases h.ld hu with ⟨_, m0, e0, el, ⟨i, _, ht, hf, hm, _⟩ | ⟨_, hf, hz⟩⟩ | ⟨_, m0, e0, el, hf, _⟩
  · obtain ⟨p, q, hs⟩ := DL_mem h.dl hm
    rw [ht] at hs
    have hk := (h.ok _ hm).k
    have hi1 : ¬ ((i:Int) < 0) := by omega
    have hi2 : (0:Int) ≤ i := by omega
    rw [e0, m0, el, hs, hf]
    simp [cnd_eq, sN, hk, hi1]
  · rw [e0, m0, el, hz, hf]
    simp [cnd_eq, sl0]
  · rw [e0, hf]
    simp [cnd_eq, m0]
theorem RepS.frE {t : TS} {l : List Nd} {σ : Int → Sl} (h : RepS t l σ) {a : Int} (hu : U64 a) : frE t.M a = frT t.M.size l a := by
  unfold Go.Sx.M.frE frT
  rcases h.ld hu with ⟨_, m0, e0, el, ⟨i, _, ht, hf, hm, _⟩ | ⟨_, hf, hz⟩⟩ | ⟨_, m0, e0, el, hf, _⟩
  · obtain ⟨p, q, hs⟩ := DL_mem h.dl hm
    rw [ht] at hs
    have hk := (h.ok _ hm).k
    have hi1 : ¬ ((i:Int) < 0) := by omega
    have hi2 : (0:Int) ≤ i := by omega
    rw [e0, m0, el, hs, hf]
    by_cases ha : a = 0 <;> simp [cnd_eq, sN, hk, ha, hi2]
  · rw [e0, m0, el, hz, hf]
    by_cases ha : a = 0 <;> simp [cnd_eq, sl0, ha]
  · rw [e0, hf]
    simp [cnd_eq, m0]
theorem mayC_eq {x : Nd} (h : SlR (slN x)) : mayC (slN x) = cnd (badC x) 10 0 := by
  have e := right_eqS h
  have e : f45_1 x.k x.a x.b x.r x.g x.s x.m = f50_2 x.k x.a x.b x.r x.g x.s x.m := e
  simp only [mayC, slN, f178_0, badC, e]
theorem RepS.ftE {t : TS} {l : List Nd} {σ : Int → Sl} (h : RepS t l σ) {x : Nd} (hu : U64 x.t) (hx : SlR (slN x)) : ftE t.M t.c x.t (slN x) = ftT t.M.size l x := by
  unfold Go.Sx.M.ftE ftT
  rw [h.frE hu, mayC_eq hx, h.c]
  cases badC x <;> rfl
end Go.Sx.M

namespace Go.Sx.M
open Go Go.Sx
theorem ends_ne {l : List Nd} {a : Int} (h : a ∉ tA l) : (a ≠ lsA l 0 ∨ lsA l 0 = 0) ∧ (a ≠ hdA l 0 ∨ hdA l 0 = 0) := by
  by_cases e : l = []
  · subst e; exact ⟨.inr rfl, .inr rfl⟩
  · exact ⟨.inl fun k => h (by rw [k]; exact lsA_mem e), .inl fun k => h (by rw [k]; exact hdA_mem e)⟩
theorem lsA_ok {n : Int} {l : List Nd} (h : ∀ x, x ∈ l → NdOk n x) : lsA l 0 = 0 ∨ slOK n (lsA l 0) := by
  by_cases e : l = []
  · subst e; exact .inl rfl
  · obtain ⟨x, hx, ht⟩ := mem_tA.1 (lsA_mem (p := 0) e)
    rw [← ht]
    exact .inr (h x hx).at_
theorem hdA_ok {n : Int} {l : List Nd} (h : ∀ x, x ∈ l → NdOk n x) : hdA l 0 = 0 ∨ slOK n (hdA l 0) := by
  by_cases e : l = []
  · subst e; exact .inl rfl
  · obtain ⟨x, hx, ht⟩ := mem_tA.1 (hdA_mem (n := 0) e)
    rw [← ht]
    exact .inr (h x hx).at_
theorem lnk0 : lnk 0 := ⟨by omega, by omega, rfl⟩
theorem lsA_nz {n : Int} {l : List Nd} (h : ∀ x, x ∈ l → NdOk n x) (e : l ≠ []) : lsA l 0 ≠ 0 := by
  obtain ⟨x, hx, ht⟩ := mem_tA.1 (lsA_mem (p := 0) e)
  rw [← ht]
  exact (h x hx).nz
theorem tieF_hd {n : Int} {l1 l2 : List Nd} {f : Int} (h : ∀ x, x ∈ l1 → NdOk n x) (hf : l1 ≠ [] → f = hdA l1 0) : tieF f (lsA l1 0) (hdA l2 0) = hdA (l1 ++ l2) 0 := by
  unfold tieF
  by_cases e : l1 = []
  · subst e; rfl
  · rw [beq_eq_false_iff_ne.2 (lsA_nz h e)]
    show f = _
    rw [hf e, hdA_app]
    cases l1 with
    | nil => exact absurd rfl e
    | cons _ _ => rfl
theorem RepS.ins {t : TS} {l1 l2 : List Nd} {σ : Int → Sl} (h : RepS t (l1 ++ l2) σ) {x : Nd} (hx : NdOk t.M.size x) (hn : x.t ∉ tA (l1 ++ l2)) (hl : (l1 ++ l2).length ≤ 100000) :
    ∃ τ, RepS ⟨insM t.M (lsA l1 0) (hdA l2 0) x.t (slN x) x.d, insF t.f (lsA l1 0) (hdA l2 0) x.t, IntKind.i64.wrap (t.c + 1)⟩ (l1 ++ x :: l2) τ := by
  have ok1 : ∀ y, y ∈ l1 → NdOk t.M.size y := fun y hy => h.ok y (List.mem_append_left _ hy)
  have ok2 : ∀ y, y ∈ l2 → NdOk t.M.size y := fun y hy => h.ok y (List.mem_append_right _ hy)
  obtain ⟨r1, r2⟩ := sN_ok hx lnk0 lnk0
  obtain ⟨E1, _, z1⟩ := h.E.st hx.at_ r1 r2
  obtain ⟨E2, z2⟩ := E1.tie (a := lsA l1 0) (b := x.t) (by rw [z1]; exact lsA_ok ok1) (by rw [z1]; exact .inr hx.at_)
  obtain ⟨E3, z3⟩ := E2.tie (a := x.t) (b := hdA l2 0) (by rw [z2, z1]; exact .inr hx.at_) (by rw [z2, z1]; exact hdA_ok ok2)
  have hsz : (insM t.M (lsA l1 0) (hdA l2 0) x.t (slN x) x.d).size = t.M.size := ins_size _ _ _ _ _ _
  rw [tA_app] at hn
  have n1 : x.t ∉ tA l1 := fun e => hn (List.mem_append_left _ e)
  have n2 : x.t ∉ tA l2 := fun e => hn (List.mem_append_right _ e)
  obtain ⟨q1, q2⟩ := DL_app.1 h.dl
  have nd := h.nd
  rw [tA_app] at nd
  obtain ⟨d1, d2, d3⟩ := List.nodup_append.1 nd
  have hd : (tA (l1 ++ x :: l2)).Nodup := by
    rw [tA_app]
    refine List.nodup_append.2 ⟨d1, List.nodup_cons.2 ⟨n2, d2⟩, ?_⟩
    intro a ha b hb e
    rcases List.mem_cons.1 hb with rfl | hb
    · exact n1 (by rw [← e]; exact ha)
    · exact d3 a ha b hb e
  have z0 := h.z0
  rw [tA_app] at z0
  have h0 : (0:Int) ∉ tA (l1 ++ x :: l2) := by
    rw [tA_app]
    intro e
    rcases List.mem_append.1 e with e | e
    · exact z0 (List.mem_append_left _ e)
    · rcases List.mem_cons.1 e with e | e
      · exact hx.nz e.symm
      · exact z0 (List.mem_append_right _ e)
  refine ⟨_, E3, ?_, ?_, hd, ?_, ?_, ?_⟩
  · show tieF (tieF t.f (lsA l1 0) x.t) x.t (hdA l2 0) = _
    have e1 : tieF t.f (lsA l1 0) x.t = hdA (l1 ++ [x]) 0 := tieF_hd (l2 := [x]) ok1 fun e => by
      rw [h.f, hdA_app]
      cases l1 with
      | nil => exact absurd rfl e
      | cons _ _ => rfl
    rw [e1]
    have e2 : lsA (l1 ++ [x]) 0 = x.t := by rw [lsA_app]; rfl
    have := tieF_hd (n := t.M.size) (l1 := l1 ++ [x]) (l2 := l2) (f := hdA (l1 ++ [x]) 0) (fun y hy => by
      rcases List.mem_append.1 hy with hy | hy
      · exact ok1 y hy
      · simp at hy; subst hy; exact hx) fun _ => rfl
    rw [e2] at this
    rw [this]
    simp
  · show IntKind.i64.wrap (t.c + 1) = _
    rw [h.c, wi (by omega) (by omega)]
    simp only [List.length_append, List.length_cons]
    omega
  · intro y hy
    show NdOk (insM t.M (lsA l1 0) (hdA l2 0) x.t (slN x) x.d).size y
    rw [hsz]
    rcases List.mem_append.1 hy with hy | hy
    · exact ok1 y hy
    · rcases List.mem_cons.1 hy with rfl | hy
      · exact hx
      · exact ok2 y hy
  · refine join3 (n := 0) (p := 0) hd h0 (DL_congr (fun y hy => setA_other fun e => n1 (by rw [← e]; exact mem_tA.2 ⟨y, hy, rfl⟩)) q1) ?_ (DL_congr (fun y hy => setA_other fun e => n2 (by rw [← e]; exact mem_tA.2 ⟨y, hy, rfl⟩)) q2)
    exact ⟨setA_same, trivial⟩
  · intro a ha hs
    have hs : slOK (insM t.M (lsA l1 0) (hdA l2 0) x.t (slN x) x.d).size a := hs
    rw [hsz] at hs
    rw [tA_app] at ha
    have a1 : a ∉ tA l1 := fun e => ha (List.mem_append_left _ e)
    have a2 : a ∉ tA l2 := fun e => ha (List.mem_append_right _ (List.mem_cons_of_mem _ e))
    have ax : a ≠ x.t := fun e => ha (List.mem_append_right _ (by rw [e]; exact List.mem_cons_self))
    rw [tieA_other (.inl ax) (ends_ne a2).2, tieA_other (ends_ne a1).1 (.inl ax)]
    show setA σ x.t _ a = _
    rw [setA_other ax]
    exact h.out a (by rw [tA_app]; exact fun e => (List.mem_append.1 e).elim a1 a2) hs
theorem badC_ok {x : Nd} (h : SlR (slN x)) (hb : badC x = false) : x.k ≠ 0 ∧ rgt (slN x) = true := by
  have e := right_eqS h
  have e : f45_1 x.k x.a x.b x.r x.g x.s x.m = f50_2 x.k x.a x.b x.r x.g x.s x.m := e
  unfold badC at hb
  rw [← e] at hb
  have hr : f45_1 x.k x.a x.b x.r x.g x.s x.m = true := by
    cases hh : f45_1 x.k x.a x.b x.r x.g x.s x.m with
    | true => rfl
    | false => rw [hh] at hb; cases hb
  rw [hr] at hb
  have hb : (x.k == 0) = false := hb
  exact ⟨fun e => (by rw [e] at hb; cases hb), hr⟩
theorem ftT_ok {z : Int} {l : List Nd} {x : Nd} (hu : 0 ≤ x.t) (h : ftT z l x = 0) : slOK z x.t ∧ x.t ≠ 0 ∧ fnd l x.t < 0 ∧ badC x = false ∧ l.length < 65536 := by
  unfold ftT frT at h
  simp only [cnd_eq] at h
  by_cases m : mayT z x.t = 0
  · refine ⟨(mayT_ok hu).1 m, ?_⟩
    grind
  · grind
theorem RepS.root {t : TS} {l : List Nd} {σ : Int → Sl} (h : RepS t l σ) {x : Nd} (hu : U64 x.t) (hx : SlR (slN x)) (hd : x.d = 0) (hl : l.length ≤ 100000) :
    rtE t x.t (slN x) = rtR t.M.size l x ∧ (∃ τ, RepS (rtT t x.t (slN x)) (rtL t.M.size l x) τ) ∧ (rtT t x.t (slN x)).M.size = t.M.size := by
  have e := h.ftE hu hx
  unfold rtE rtT rtR rtL
  rw [e]
  by_cases hz : ftT t.M.size l x = 0
  · obtain ⟨q1, q2, q3, q4, q5⟩ := ftT_ok hu.1 hz
    obtain ⟨b1, b2⟩ := badC_ok hx q4
    have hok : NdOk t.M.size x := ⟨q1, q2, b1, hx, b2, by omega, by omega⟩
    have hn : x.t ∉ tA ([] ++ l) := by
      rcases fnd_spec h.nd x.t with ⟨i, _, _, q, _⟩ | ⟨q, _⟩
      · omega
      · exact q
    obtain ⟨τ, R⟩ := RepS.ins (l1 := []) h hok hn hl
    have hb : (ftT t.M.size l x != 0) = false := by simp [hz]
    rw [hb]
    refine ⟨rfl, ⟨τ, ?_⟩, ins_size _ _ _ _ _ _⟩
    have hf := h.f
    rw [hd] at R
    have e1 : lsA ([] : List Nd) 0 = 0 := rfl
    rw [e1, ← hf] at R
    exact R
  · have hb : (ftT t.M.size l x != 0) = true := by simp [hz]
    rw [hb]
    exact ⟨rfl, ⟨σ, h⟩, rfl⟩
end Go.Sx.M

namespace Go.Sx.M
open Go Go.Sx
theorem cnd_f {α : Type} (a b : α) : cnd false a b = b := rfl
theorem cnd_t {α : Type} (a b : α) : cnd true a b = a := rfl
theorem RepS.at_ {t : TS} {l : List Nd} {σ : Int → Sl} (h : RepS t l σ) {a : Int} (hu : U64 a) (he : hdT t.M.size l a = 0) :
    ∃ (l1 l2 : List Nd) (g : Nd), l = l1 ++ g :: l2 ∧ g.t = a ∧ fnd l a = l1.length ∧ atN l a = g ∧ Go.Sx.M.ld t.M a = sN g (hdA l2 0) (lsA l1 0) ∧ σ a = sN g (hdA l2 0) (lsA l1 0) ∧ slOK t.M.size a := by
  rcases h.ld hu with ⟨hs, m0, e0, el, ⟨i, hi, ht, hf, hm, hl⟩ | ⟨_, hf, hz⟩⟩ | ⟨_, m0, e0, el, hf, _⟩
  · refine ⟨l.take i, l.drop (i + 1), gN l i, hl, ht, by rw [hf, List.length_take]; omega, by unfold atN; rw [hf]; rfl, ?_⟩
    have hd := h.dl
    rw [hl] at hd
    obtain ⟨_, q⟩ := DL_app.1 hd
    obtain ⟨q, _⟩ := q
    rw [ht] at q
    exact ⟨by rw [el]; exact q, q, hs⟩
  · exfalso
    unfold hdT at he
    rw [m0, hf] at he
    cases he
  · exfalso
    unfold hdT at he
    rw [hf, beq_eq_false_iff_ne.2 m0] at he
    exact m0 he
theorem RepS.child {t : TS} {l : List Nd} {σ : Int → Sl} (h : RepS t l σ) {p : Int} {x : Nd} (hp : U64 p) (hu : U64 x.t) (hx : SlR (slN x)) (hl : l.length ≤ 100000) :
    chE t p x.t (slN x) = chR t.M.size l p x ∧ (∃ τ, RepS (chT t p x.t (slN x)) (chL t.M.size l p x) τ) ∧ (chT t p x.t (slN x)).M.size = t.M.size := by
  have e1 := h.ftE hu hx
  have e2 := h.hdE hp
  unfold chE chT chR chL
  rw [e1, e2]
  by_cases hz1 : hdT t.M.size l p = 0
  · obtain ⟨l1, l2, g, rfl, ht, hf, ha, hld, hs, hok⟩ := h.at_ hp hz1
    have hb1 : (hdT t.M.size (l1 ++ g :: l2) p != 0) = false := by simp [hz1]
    simp only [hb1, mrgM_f, cnd_f]
    by_cases hz : ftT t.M.size (l1 ++ g :: l2) x = 0
    · have hb2 : (ftT t.M.size (l1 ++ g :: l2) x != 0) = false := by simp [hz]
      rw [hld, ha]
      simp only [hb2, mrgM_f, cnd_f]
      obtain ⟨q1, q2, q3, q4, q5⟩ := ftT_ok hu.1 hz
      obtain ⟨b1, b2⟩ := badC_ok hx q4
      have hg := h.ok g (List.mem_append_right _ List.mem_cons_self)
      have hd : (sN g (hdA l2 0) (lsA l1 0)).d = g.d := rfl
      have hxx : (sN g (hdA l2 0) (lsA l1 0)).x = hdA l2 0 := rfl
      rw [hd, hxx]
      by_cases hdp : g.d ≥ 4096
      · simp only [decide_eq_true hdp, mrgM_t, cnd_t]
        exact ⟨trivial, ⟨σ, h⟩, trivial⟩
      · simp only [decide_eq_false hdp, mrgM_f, cnd_f]
        have hw : IntKind.i64.wrap (g.d + 1) = g.d + 1 := by have := hg.d0; rw [wi (by omega) (by omega)]
        have hok2 : NdOk t.M.size { x with d := IntKind.i64.wrap (g.d + 1) } := ⟨q1, q2, b1, hx, b2, by have := hg.d0; show 0 ≤ IntKind.i64.wrap (g.d + 1); rw [hw]; omega, by show IntKind.i64.wrap (g.d + 1) ≤ 4096; rw [hw]; omega⟩
        have hn : x.t ∉ tA (l1 ++ g :: l2) := by
          rcases fnd_spec h.nd x.t with ⟨i, _, _, q, _⟩ | ⟨q, _⟩
          · omega
          · exact q
        have hh : RepS t ((l1 ++ [g]) ++ l2) σ := by simpa using h
        obtain ⟨τ, R⟩ := RepS.ins (x := { x with d := IntKind.i64.wrap (g.d + 1) }) hh hok2 (by simpa using hn) (by simpa using hl)
        have el : lsA (l1 ++ [g]) 0 = p := by rw [lsA_app]; exact ht
        rw [el] at R
        have ep : putN (l1 ++ g :: l2) ((fnd (l1 ++ g :: l2) p).toNat + 1) { x with d := IntKind.i64.wrap (g.d + 1) } = (l1 ++ [g]) ++ { x with d := IntKind.i64.wrap (g.d + 1) } :: l2 := by
          rw [hf]
          unfold putN
          have hlen : ((l1.length:Int).toNat + 1) = (l1 ++ [g]).length := by simp
          have hsp : l1 ++ g :: l2 = (l1 ++ [g]) ++ l2 := by simp
          rw [hlen, hsp, List.take_left, List.drop_left]
        refine ⟨trivial, ⟨τ, ?_⟩, ins_size _ _ _ _ _ _⟩
        rw [ep]
        exact R
    · have hb2 : (ftT t.M.size (l1 ++ g :: l2) x != 0) = true := by simp [hz]
      simp only [hb2, mrgM_t, cnd_t]
      exact ⟨trivial, ⟨σ, h⟩, trivial⟩
  · have hb1 : (hdT t.M.size l p != 0) = true := by simp [hz1]
    simp only [hb1, mrgM_t, cnd_t]
    exact ⟨trivial, ⟨σ, h⟩, trivial⟩
end Go.Sx.M

namespace Go.Sx.M
open Go Go.Sx
def seR (z:Int) (l : List Nd) (x : Nd) : Int := cnd (hdT z l x.t != 0) (hdT z l x.t) (cnd (badC x) 10 0)
def seL (z:Int) (l : List Nd) (x : Nd) : List Nd := cnd (hdT z l x.t != 0) l (cnd (badC x) l (l.set (fnd l x.t).toNat { x with d := (atN l x.t).d }))
def mvR (z:Int) (l : List Nd) (a b:Int) : Int := cnd (hdT z l a != 0) (hdT z l a) (cnd (frT z l b != 0) (frT z l b) 0)
def mvL (z:Int) (l : List Nd) (a b:Int) : List Nd := cnd (hdT z l a != 0) l (cnd (frT z l b != 0) l (l.set (fnd l a).toNat { atN l a with t := b }))
theorem set_mid {l1 l2 : List Nd} {g x : Nd} {n : Int} (h : n = l1.length) : (l1 ++ g :: l2).set n.toNat x = l1 ++ x :: l2 := by
  subst h
  rw [List.set_append_right _ _ (by simp)]
  simp
theorem DL_upd {σ : Int → Sl} {l1 l2 : List Nd} {g x : Nd} (hd : (tA (l1 ++ g :: l2)).Nodup) (ht : x.t = g.t) (h : DL σ 0 (l1 ++ g :: l2) 0) :
    DL (setA σ g.t (sN x (hdA l2 0) (lsA l1 0))) 0 (l1 ++ x :: l2) 0 := by
  rw [tA_app] at hd
  obtain ⟨d1, d2, d3⟩ := List.nodup_append.1 hd
  obtain ⟨q1, q2, q3⟩ := DL_app.1 h
  have g1 : g.t ∉ tA l1 := fun e => d3 _ e _ List.mem_cons_self rfl
  have g2 : g.t ∉ tA l2 := (List.nodup_cons.1 d2).1
  refine DL_app.2 ⟨?_, ?_, ?_⟩
  · show DL _ 0 l1 x.t
    rw [ht]
    exact DL_congr (fun y hy => setA_other fun e => g1 (by rw [← e]; exact mem_tA.2 ⟨y, hy, rfl⟩)) q1
  · rw [ht, setA_same]
  · rw [ht]
    exact DL_congr (fun y hy => setA_other fun e => g2 (by rw [← e]; exact mem_tA.2 ⟨y, hy, rfl⟩)) q3
theorem tA_mid {l1 l2 : List Nd} {g x : Nd} (h : x.t = g.t) : tA (l1 ++ x :: l2) = tA (l1 ++ g :: l2) := by
  simp [tA, h]
theorem RepS.upd {t : TS} {l1 l2 : List Nd} {g x : Nd} {σ : Int → Sl} (h : RepS t (l1 ++ g :: l2) σ) (hx : NdOk t.M.size x) (ht : x.t = g.t) :
    RepS ⟨stM t.M g.t (sN x (hdA l2 0) (lsA l1 0)), t.f, t.c⟩ (l1 ++ x :: l2) (setA σ g.t (sN x (hdA l2 0) (lsA l1 0))) := by
  have ok1 : ∀ y, y ∈ l1 → NdOk t.M.size y := fun y hy => h.ok y (List.mem_append_left _ hy)
  have ok2 : ∀ y, y ∈ l2 → NdOk t.M.size y := fun y hy => h.ok y (List.mem_append_right _ (List.mem_cons_of_mem _ hy))
  have la : lnk (lsA l1 0) := (lsA_ok ok1).elim (fun e => by rw [e]; exact lnk0) fun k => k.lnk h.E.s2
  have lb : lnk (hdA l2 0) := (hdA_ok ok2).elim (fun e => by rw [e]; exact lnk0) fun k => k.lnk h.E.s2
  obtain ⟨r1, r2⟩ := sN_ok hx lb la
  have hg := h.ok g (List.mem_append_right _ List.mem_cons_self)
  obtain ⟨E1, _, z1⟩ := h.E.st hg.at_ r1 r2
  refine ⟨E1, ?_, ?_, by rw [tA_mid ht]; exact h.nd, ?_, DL_upd h.nd ht h.dl, ?_⟩
  · show t.f = _
    rw [h.f, hdA_app, hdA_app]
    cases l1 with
    | nil => exact ht.symm
    | cons _ _ => rfl
  · show t.c = _
    rw [h.c]
    simp
  · intro y hy
    show NdOk (stM t.M g.t _).size y
    rw [z1]
    rcases List.mem_append.1 hy with hy | hy
    · exact ok1 y hy
    · rcases List.mem_cons.1 hy with rfl | hy
      · exact hx
      · exact ok2 y hy
  · intro a ha hs
    have hs : slOK (stM t.M g.t (sN x (hdA l2 0) (lsA l1 0))).size a := hs
    rw [z1] at hs
    rw [tA_mid ht] at ha
    have : a ≠ g.t := fun e => ha (by rw [e]; exact mem_tA.2 ⟨g, List.mem_append_right _ List.mem_cons_self, rfl⟩)
    rw [setA_other this]
    exact h.out a ha hs
theorem RepS.set {t : TS} {l : List Nd} {σ : Int → Sl} (h : RepS t l σ) {x : Nd} (hu : U64 x.t) (hx : SlR (slN x)) :
    seE t x.t (slN x) = seR t.M.size l x ∧ (∃ τ, RepS (seT t x.t (slN x)) (seL t.M.size l x) τ) ∧ (seT t x.t (slN x)).M.size = t.M.size := by
  have e2 := h.hdE hu
  unfold seE seT seR seL
  rw [e2, mayC_eq hx]
  by_cases hz1 : hdT t.M.size l x.t = 0
  · obtain ⟨l1, l2, g, rfl, ht, hf, ha, hld, hs, hok⟩ := h.at_ hu hz1
    have hb1 : (hdT t.M.size (l1 ++ g :: l2) x.t != 0) = false := by simp [hz1]
    cases hb : badC x with
    | true =>
      simp only [hb1, mrgM_f, mrgM_t, cnd_f, cnd_t]
      exact ⟨rfl, ⟨σ, h⟩, rfl⟩
    | false =>
      obtain ⟨b1, b2⟩ := badC_ok hx hb
      have hg := h.ok g (List.mem_append_right _ List.mem_cons_self)
      have hxx : NdOk t.M.size { x with d := g.d } := ⟨hok, fun e => hg.nz (by rw [ht]; exact e), b1, hx, b2, hg.d0, hg.d1⟩
      have R := h.upd hxx ht.symm
      have hnz : (x.t == 0) = false := beq_eq_false_iff_ne.2 fun e => hg.nz (by rw [ht]; exact e)
      have hc : tC t.M x.t (slN x) = stM t.M g.t (sN { x with d := g.d } (hdA l2 0) (lsA l1 0)) := by
        unfold tC
        rw [hnz, mrgM_f, hld, ht]
        rfl
      simp only [hb1, mrgM_f, mrgM_t, cnd_f, cnd_t, hc, set_mid hf, ha]
      exact ⟨rfl, ⟨_, R⟩, by rw [← hc]; exact tC_size _ _ _⟩
  · have hb1 : (hdT t.M.size l x.t != 0) = true := by simp [hz1]
    simp only [hb1, mrgM_t, cnd_t]
    exact ⟨trivial, ⟨σ, h⟩, trivial⟩
theorem frT_ok {z : Int} {l : List Nd} {a : Int} (hu : 0 ≤ a) (h : frT z l a = 0) : slOK z a ∧ a ≠ 0 ∧ fnd l a < 0 := by
  unfold frT at h
  simp only [cnd_eq] at h
  by_cases m : mayT z a = 0
  · refine ⟨(mayT_ok hu).1 m, ?_⟩
    grind
  · grind
theorem RepS.move {t : TS} {l : List Nd} {σ : Int → Sl} (h : RepS t l σ) {a b : Int} (hua : U64 a) (hub : U64 b) :
    mvE t a b = mvR t.M.size l a b ∧ (∃ τ, RepS (mvT t a b) (mvL t.M.size l a b) τ) ∧ (mvT t a b).M.size = t.M.size := by
  have e1 := h.frE hub
  have e2 := h.hdE hua
  unfold mvE mvT mvR mvL
  rw [e2, e1]
  by_cases hz1 : hdT t.M.size l a = 0
  · obtain ⟨l1, l2, g, rfl, ht, hf, ha, hld, hs, hok⟩ := h.at_ hua hz1
    have hb1 : (hdT t.M.size (l1 ++ g :: l2) a != 0) = false := by simp [hz1]
    simp only [hb1, mrgM_f, cnd_f]
    by_cases hz : frT t.M.size (l1 ++ g :: l2) b = 0
    · have hb2 : (frT t.M.size (l1 ++ g :: l2) b != 0) = false := by simp [hz]
      simp only [hb2, mrgM_f, cnd_f]
      obtain ⟨k1, k2, k3⟩ := frT_ok hub.1 hz
      have hbn : b ∉ tA (l1 ++ g :: l2) := by
        rcases fnd_spec h.nd b with ⟨i, _, _, q, _⟩ | ⟨q, _⟩
        · omega
        · exact q
      have hg := h.ok g (List.mem_append_right _ List.mem_cons_self)
      have ok1 : ∀ y, y ∈ l1 → NdOk t.M.size y := fun y hy => h.ok y (List.mem_append_left _ hy)
      have ok2 : ∀ y, y ∈ l2 → NdOk t.M.size y := fun y hy => h.ok y (List.mem_append_right _ (List.mem_cons_of_mem _ hy))
      have hx : NdOk t.M.size { g with t := b } := ⟨k1, k2, hg.k, hg.R, hg.r, hg.d0, hg.d1⟩
      obtain ⟨E1, _, z1⟩ := h.E.st hok sl0_R sl0_right
      have hne : b ≠ a := fun e => hbn (by rw [e, ← ht]; exact mem_tA.2 ⟨g, List.mem_append_right _ List.mem_cons_self, rfl⟩)
      have la : lnk (lsA l1 0) := (lsA_ok ok1).elim (fun e => by rw [e]; exact lnk0) fun k => k.lnk h.E.s2
      have lb : lnk (hdA l2 0) := (hdA_ok ok2).elim (fun e => by rw [e]; exact lnk0) fun k => k.lnk h.E.s2
      obtain ⟨r1, r2⟩ := sN_ok hg lb la
      obtain ⟨E2, _, z2⟩ := E1.st (a := b) (by rw [z1]; exact k1) r1 r2
      have hM : mvM t a b = stM (stM t.M a sl0) b (sN g (hdA l2 0) (lsA l1 0)) := by unfold mvM; rw [hld]
      rw [← hM] at E2 z2
      have zz : (mvM t a b).size = t.M.size := z2.trans z1
      obtain ⟨E3, z3⟩ := E2.tie (a := lsA l1 0) (b := b) (by rw [zz]; exact lsA_ok ok1) (by rw [zz]; exact .inr k1)
      obtain ⟨E4, z4⟩ := E3.tie (a := b) (b := hdA l2 0) (by rw [z3, zz]; exact .inr k1) (by rw [z3, zz]; exact hdA_ok ok2)
      have hxx : (sN g (hdA l2 0) (lsA l1 0)).x = hdA l2 0 := rfl
      have hpp : (sN g (hdA l2 0) (lsA l1 0)).p = lsA l1 0 := rfl
      rw [hld, ha, hxx, hpp, set_mid hf]
      have nd := h.nd
      rw [tA_app] at nd hbn
      obtain ⟨d1, d2, d3⟩ := List.nodup_append.1 nd
      have d2' := List.nodup_cons.1 d2
      have n1 : b ∉ tA l1 := fun e => hbn (List.mem_append_left _ e)
      have n2 : b ∉ tA l2 := fun e => hbn (List.mem_append_right _ (List.mem_cons_of_mem _ e))
      have g1 : a ∉ tA l1 := fun e => d3 _ e _ List.mem_cons_self ht.symm
      have g2 : a ∉ tA l2 := fun e => d2'.1 (by rw [ht]; exact e)
      have hd : (tA (l1 ++ { g with t := b } :: l2)).Nodup := by
        rw [tA_app]
        refine List.nodup_append.2 ⟨d1, List.nodup_cons.2 ⟨n2, d2'.2⟩, ?_⟩
        intro c hc e he q
        rcases List.mem_cons.1 he with rfl | he
        · exact n1 (by rw [← q]; exact hc)
        · exact d3 c hc e (List.mem_cons_of_mem _ he) q
      have hz0 : (0:Int) ∉ tA (l1 ++ { g with t := b } :: l2) := by
        have z0 := h.z0
        rw [tA_app] at z0 ⊢
        intro e
        rcases List.mem_append.1 e with e | e
        · exact z0 (List.mem_append_left _ e)
        · rcases List.mem_cons.1 e with e | e
          · exact k2 e.symm
          · exact z0 (List.mem_append_right _ (List.mem_cons_of_mem _ e))
      obtain ⟨q1, _, q3⟩ := DL_app.1 h.dl
      have hsame : ∀ {l : List Nd}, a ∉ tA l → b ∉ tA l → ∀ y, y ∈ l → setA (setA σ a sl0) b (sN g (hdA l2 0) (lsA l1 0)) y.t = σ y.t := by
        intro l m1 m2 y hy
        have hm : y.t ∈ tA l := mem_tA.2 ⟨y, hy, rfl⟩
        rw [setA_other fun e => m2 (by rw [← e]; exact hm), setA_other fun e => m1 (by rw [← e]; exact hm)]
      refine ⟨trivial, ⟨_, ⟨E4, ?_, ?_, hd, ?_, ?_, ?_⟩⟩, ?_⟩
      · show tieF (tieF t.f (lsA l1 0) b) b (hdA l2 0) = _
        have f1 : tieF t.f (lsA l1 0) b = hdA (l1 ++ [{ g with t := b }]) 0 := tieF_hd (l2 := [{ g with t := b }]) ok1 fun e => by
          rw [h.f, hdA_app]
          cases l1 with
          | nil => exact absurd rfl e
          | cons _ _ => rfl
        rw [f1]
        have f2 : lsA (l1 ++ [{ g with t := b }]) 0 = b := by rw [lsA_app]; rfl
        have := tieF_hd (n := t.M.size) (l1 := l1 ++ [{ g with t := b }]) (l2 := l2) (f := hdA (l1 ++ [{ g with t := b }]) 0) (fun y hy => by
          rcases List.mem_append.1 hy with hy | hy
          · exact ok1 y hy
          · simp at hy; subst hy; exact hx) fun _ => rfl
        rw [f2] at this
        rw [this]
        simp
      · show t.c = _
        rw [h.c]
        simp
      · intro y hy
        show NdOk (tieM (tieM (mvM t a b) (lsA l1 0) b) b (hdA l2 0)).size y
        rw [z4, z3, zz]
        rcases List.mem_append.1 hy with hy | hy
        · exact ok1 y hy
        · rcases List.mem_cons.1 hy with rfl | hy
          · exact hx
          · exact ok2 y hy
      · refine join3 (x := { g with t := b }) (n := hdA l2 0) (p := lsA l1 0) hd hz0 (DL_congr (hsame g1 n1) q1) ⟨?_, trivial⟩ (DL_congr (hsame g2 n2) q3)
        show setA (setA σ a sl0) b _ b = _
        rw [setA_same]
        rfl
      · intro c hc hs'
        have hs' : slOK (tieM (tieM (mvM t a b) (lsA l1 0) b) b (hdA l2 0)).size c := hs'
        rw [z4, z3, zz] at hs'
        rw [tA_app] at hc
        have c1 : c ∉ tA l1 := fun e => hc (List.mem_append_left _ e)
        have c2 : c ∉ tA l2 := fun e => hc (List.mem_append_right _ (List.mem_cons_of_mem _ e))
        have cb : c ≠ b := fun e => hc (List.mem_append_right _ (by rw [e]; exact List.mem_cons_self))
        rw [tieA_other (.inl cb) (ends_ne c2).2, tieA_other (ends_ne c1).1 (.inl cb), setA_other cb]
        by_cases ca : c = a
        · subst ca; exact setA_same
        · rw [setA_other ca]
          refine h.out c ?_ hs'
          rw [tA_app]
          intro e
          rcases List.mem_append.1 e with e | e
          · exact c1 e
          · rcases List.mem_cons.1 e with e | e
            · exact ca (e.trans ht)
            · exact c2 e
      · show (tieM (tieM (mvM t a b) (lsA l1 0) b) b (hdA l2 0)).size = _
        rw [z4, z3, zz]
    · have hb2 : (frT t.M.size (l1 ++ g :: l2) b != 0) = true := by simp [hz]
      simp only [hb2, mrgM_t, cnd_t]
      exact ⟨trivial, ⟨σ, h⟩, trivial⟩
  · have hb1 : (hdT t.M.size l a != 0) = true := by simp [hz1]
    simp only [hb1, mrgM_t, cnd_t]
    exact ⟨trivial, ⟨σ, h⟩, trivial⟩
end Go.Sx.M

namespace Go.Sx.M
open Go Go.Sx
theorem join2p {σ : Int → Sl} {l1 l2 : List Nd} {n p p0 m : Int} (hne : l1 ≠ []) (hd : (tA (l1 ++ l2)).Nodup) (h0 : (0:Int) ∉ tA (l1 ++ l2)) (hm : l2 = [] → m = 0) (h1 : DL σ p0 l1 n) (h2 : DL σ p l2 m) : DL (tieA σ (lsA l1 0) (hdA l2 0)) p0 (l1 ++ l2) m := by
  rw [tA_app] at hd h0
  obtain ⟨d1, d2, d3⟩ := List.nodup_append.1 hd
  have z1 : (0:Int) ∉ tA l1 := fun h => h0 (List.mem_append_left _ h)
  have z2 : (0:Int) ∉ tA l2 := fun h => h0 (List.mem_append_right _ h)
  rw [DL_app]
  have m1 : lsA l1 0 ∈ tA l1 := lsA_mem hne
  have ep : lsA l1 p0 = lsA l1 0 := lsA_p hne
  rw [ep]
  by_cases e2 : l2 = []
  · subst e2
    rw [hm rfl]
    exact ⟨DL_left hne rfl z1 d1 z1 h1, trivial⟩
  · have m2 : hdA l2 0 ∈ tA l2 := hdA_mem e2
    have e3 : hdA l2 m = hdA l2 0 := by cases l2 with
      | nil => exact absurd rfl e2
      | cons _ _ => rfl
    rw [e3]
    exact ⟨DL_left hne rfl z1 d1 (fun h => d3 _ h _ m2 rfl) h1, DL_right e2 rfl z2 d2 (fun h => d3 _ m1 _ h rfl) h2⟩
theorem lsA_in (l : List Nd) : lsA l 0 = 0 ∨ lsA l 0 ∈ tA l := by
  by_cases e : l = []
  · subst e; exact .inl rfl
  · exact .inr (lsA_mem e)
theorem hdA_in (l : List Nd) : hdA l 0 = 0 ∨ hdA l 0 ∈ tA l := by
  by_cases e : l = []
  · subst e; exact .inl rfl
  · exact .inr (hdA_mem e)
def Ap (l k : List Nd) : Prop := ∀ u, u ∈ tA l → ∀ v, v ∈ tA k → u ≠ v
theorem Ap.nin {l k : List Nd} (h : Ap l k) (h0 : (0:Int) ∉ tA k) {a : Int} (ha : a = 0 ∨ a ∈ tA l) : a ∉ tA k := fun e =>
  ha.elim (fun q => h0 (by rw [← q]; exact e)) fun q => h a q a e rfl
theorem Ap.symm {l k : List Nd} (h : Ap l k) : Ap k l := fun u hu v hv e => h v hv u hu e.symm
theorem nod2 {l k : List Nd} : (tA (l ++ k)).Nodup ↔ (tA l).Nodup ∧ (tA k).Nodup ∧ Ap l k := by
  rw [tA_app, List.nodup_append]
  rfl
theorem z2 {l k : List Nd} : (0:Int) ∉ tA (l ++ k) ↔ (0:Int) ∉ tA l ∧ (0:Int) ∉ tA k := by
  rw [tA_app, List.mem_append, not_or]
theorem Ap_l {l k j : List Nd} : Ap (l ++ k) j ↔ Ap l j ∧ Ap k j := by
  unfold Ap
  rw [tA_app]
  simp only [List.mem_append]
  exact ⟨fun h => ⟨fun u hu => h u (.inl hu), fun u hu => h u (.inr hu)⟩, fun h u hu => hu.elim (h.1 u) (h.2 u)⟩
theorem Ap_r {l k j : List Nd} : Ap j (l ++ k) ↔ Ap j l ∧ Ap j k := by
  unfold Ap
  rw [tA_app]
  simp only [List.mem_append]
  exact ⟨fun h => ⟨fun u hu v hv => h u hu v (.inl hv), fun u hu v hv => h u hu v (.inr hv)⟩, fun h u hu v hv => hv.elim (h.1 u hu v) (h.2 u hu v)⟩
theorem one_in (x : Nd) : x.t = 0 ∨ x.t ∈ tA [x] := .inr (by simp [tA])
theorem one_ne (x : Nd) : [x] ≠ [] := by simp
theorem DL_sw1 {τ : Int → Sl} {l1 m l2 : List Nd} {x y : Nd} {n1 px nx pm nm py ny p2 : Int} (hd : (tA ((((l1 ++ [x]) ++ m) ++ [y]) ++ l2)).Nodup) (h0 : (0:Int) ∉ tA ((((l1 ++ [x]) ++ m) ++ [y]) ++ l2))
    (h1 : DL τ 0 l1 n1) (hx : DL τ px [x] nx) (hm : DL τ pm m nm) (hy : DL τ py [y] ny) (h2 : DL τ p2 l2 0) :
    DL (tieA (tieA (tieA (tieA τ (lsA l1 0) x.t) x.t (hdA (m ++ [y]) 0)) (lsA (x :: m) 0) y.t) y.t (hdA l2 0)) 0 ((((l1 ++ [x]) ++ m) ++ [y]) ++ l2) 0 := by
  obtain ⟨d4, dl, a4⟩ := nod2.1 hd
  obtain ⟨d3, dy, a3⟩ := nod2.1 d4
  obtain ⟨d2, dm, a2⟩ := nod2.1 d3
  obtain ⟨d1, dx, a1⟩ := nod2.1 d2
  obtain ⟨o4, ol⟩ := z2.1 h0
  obtain ⟨o3, oy⟩ := z2.1 o4
  obtain ⟨o2, om⟩ := z2.1 o3
  obtain ⟨o1, ox⟩ := z2.1 o2
  obtain ⟨⟨⟨a1l, axl⟩, aml⟩, ayl⟩ : ((Ap l1 l2 ∧ Ap [x] l2) ∧ Ap m l2) ∧ Ap [y] l2 := by
    have := Ap_l.1 a4; obtain ⟨q, r⟩ := this; have := Ap_l.1 q; obtain ⟨q, s⟩ := this; exact ⟨⟨Ap_l.1 q, s⟩, r⟩
  obtain ⟨⟨a1y, axy⟩, amy⟩ : (Ap l1 [y] ∧ Ap [x] [y]) ∧ Ap m [y] := by
    have := Ap_l.1 a3; obtain ⟨q, r⟩ := this; exact ⟨Ap_l.1 q, r⟩
  obtain ⟨a1m, axm⟩ := Ap_l.1 a2
  have k1 : DL (tieA τ (lsA l1 0) x.t) 0 (l1 ++ [x]) nx := join2 (l2 := [x]) d2 o2 (fun e => by cases e) h1 hx
  have km : DL (tieA τ (lsA l1 0) x.t) pm m nm := DL_out (a1m.nin om (lsA_in l1)) (axm.nin om (one_in x)) hm
  have ky : DL (tieA τ (lsA l1 0) x.t) py [y] ny := DL_out (a1y.nin oy (lsA_in l1)) (axy.nin oy (one_in x)) hy
  have kl : DL (tieA τ (lsA l1 0) x.t) p2 l2 0 := DL_out (a1l.nin ol (lsA_in l1)) (axl.nin ol (one_in x)) h2
  generalize tieA τ (lsA l1 0) x.t = τ1 at k1 km ky kl ⊢
  have e1 : lsA (l1 ++ [x]) 0 = x.t := by rw [lsA_app]; rfl
  have k3 : DL (tieA (tieA τ1 x.t (hdA (m ++ [y]) 0)) (lsA (x :: m) 0) y.t) 0 (((l1 ++ [x]) ++ m) ++ [y]) ny ∧ DL (tieA (tieA τ1 x.t (hdA (m ++ [y]) 0)) (lsA (x :: m) 0) y.t) p2 l2 0 := by
    by_cases em : m = []
    · subst em
      have hd' : (tA ((l1 ++ [x]) ++ [y])).Nodup := by simpa using d4
      have o' : (0:Int) ∉ tA ((l1 ++ [x]) ++ [y]) := by simpa using o4
      have q1 := join2 (l1 := l1 ++ [x]) (l2 := [y]) hd' o' (fun e => by cases e) k1 ky
      rw [e1] at q1
      have q2 : DL (tieA τ1 x.t y.t) p2 l2 0 := DL_out (axl.nin ol (one_in x)) (ayl.nin ol (one_in y)) kl
      obtain ⟨r1, r2⟩ := DL_app.1 q1
      have q3 := join2 (l1 := l1 ++ [x]) (l2 := [y]) hd' o' (fun e => by cases e) r1 r2
      rw [e1] at q3
      refine ⟨?_, DL_out (axl.nin ol (one_in x)) (ayl.nin ol (one_in y)) q2⟩
      simpa [lsA, hdA] using q3
    · have q1 := join2 (l1 := l1 ++ [x]) (l2 := m) d3 o3 (fun e => absurd e em) k1 km
      rw [e1] at q1
      have eh : hdA (m ++ [y]) 0 = hdA m 0 := by
        cases m with
        | nil => exact absurd rfl em
        | cons _ _ => rfl
      have el : lsA (x :: m) 0 = lsA ((l1 ++ [x]) ++ m) 0 := by
        rw [lsA_app]
        show lsA m x.t = _
        exact lsA_p em
      have el2 : lsA (x :: m) 0 = lsA m 0 := lsA_p em
      rw [eh]
      have q2 : DL (tieA τ1 x.t (hdA m 0)) py [y] ny := DL_out (axy.nin oy (one_in x)) (amy.nin oy (hdA_in m)) ky
      have q3 : DL (tieA τ1 x.t (hdA m 0)) p2 l2 0 := DL_out (axl.nin ol (one_in x)) (aml.nin ol (hdA_in m)) kl
      refine ⟨?_, ?_⟩
      · rw [el]
        exact join2 (l1 := (l1 ++ [x]) ++ m) (l2 := [y]) d4 o4 (fun e => by cases e) q1 q2
      · rw [el2]
        exact DL_out (aml.nin ol (lsA_in m)) (ayl.nin ol (one_in y)) q3
  have e4 : lsA (((l1 ++ [x]) ++ m) ++ [y]) 0 = y.t := by rw [lsA_app]; rfl
  have k4 := join2 (l1 := ((l1 ++ [x]) ++ m) ++ [y]) (l2 := l2) hd h0 (fun _ => rfl) k3.1 k3.2
  rw [e4] at k4
  exact k4
theorem DL_sw2 {τ : Int → Sl} {l1 m l2 : List Nd} {x y : Nd} {n1 px nx pm nm py ny p2 : Int} (hd : (tA ((((l1 ++ [y]) ++ m) ++ [x]) ++ l2)).Nodup) (h0 : (0:Int) ∉ tA ((((l1 ++ [y]) ++ m) ++ [x]) ++ l2))
    (h1 : DL τ 0 l1 n1) (hx : DL τ px [x] nx) (hm : DL τ pm m nm) (hy : DL τ py [y] ny) (h2 : DL τ p2 l2 0) :
    DL (tieA (tieA (tieA (tieA τ (lsA (y :: m) 0) x.t) x.t (hdA l2 0)) (lsA l1 0) y.t) y.t (hdA (m ++ [x]) 0)) 0 ((((l1 ++ [y]) ++ m) ++ [x]) ++ l2) 0 := by
  obtain ⟨d4, dl, a4⟩ := nod2.1 hd
  obtain ⟨d3, dy, a3⟩ := nod2.1 d4
  obtain ⟨d2, dm, a2⟩ := nod2.1 d3
  obtain ⟨d1, dx, a1⟩ := nod2.1 d2
  obtain ⟨o4, ol⟩ := z2.1 h0
  obtain ⟨o3, oy⟩ := z2.1 o4
  obtain ⟨o2, om⟩ := z2.1 o3
  obtain ⟨o1, ox⟩ := z2.1 o2
  obtain ⟨⟨⟨a1l, axl⟩, aml⟩, ayl⟩ : ((Ap l1 l2 ∧ Ap [y] l2) ∧ Ap m l2) ∧ Ap [x] l2 := by
    have := Ap_l.1 a4; obtain ⟨q, r⟩ := this; have := Ap_l.1 q; obtain ⟨q, s⟩ := this; exact ⟨⟨Ap_l.1 q, s⟩, r⟩
  obtain ⟨⟨a1y, axy⟩, amy⟩ : (Ap l1 [x] ∧ Ap [y] [x]) ∧ Ap m [x] := by
    have := Ap_l.1 a3; obtain ⟨q, r⟩ := this; exact ⟨Ap_l.1 q, r⟩
  obtain ⟨a1m, axm⟩ := Ap_l.1 a2
  have e1 : lsA (l1 ++ [y]) 0 = y.t := by rw [lsA_app]; rfl
  by_cases em : m = []
  · subst em
    have dyx : (tA ([y] ++ [x])).Nodup := nod2.2 ⟨dx, dy, axy⟩
    have oyx : (0:Int) ∉ tA ([y] ++ [x]) := z2.2 ⟨ox, oy⟩
    have dyxl : (tA (([y] ++ [x]) ++ l2)).Nodup := nod2.2 ⟨dyx, dl, Ap_l.2 ⟨axl, ayl⟩⟩
    have oyxl : (0:Int) ∉ tA (([y] ++ [x]) ++ l2) := z2.2 ⟨oyx, ol⟩
    have k1 : DL (tieA τ y.t x.t) py ([y] ++ [x]) nx := join2p (one_ne y) dyx oyx (fun e => by cases e) hy hx
    have k1l : DL (tieA τ y.t x.t) p2 l2 0 := DL_out (axl.nin ol (one_in y)) (ayl.nin ol (one_in x)) h2
    have k10 : DL (tieA τ y.t x.t) 0 l1 n1 := DL_out (a1.symm.nin o1 (one_in y)) (a1y.symm.nin o1 (one_in x)) h1
    show DL (tieA (tieA (tieA (tieA τ y.t x.t) x.t (hdA l2 0)) (lsA l1 0) y.t) y.t x.t) 0 ((((l1 ++ [y]) ++ []) ++ [x]) ++ l2) 0
    generalize tieA τ y.t x.t = τ1 at k1 k1l k10 ⊢
    have k2 : DL (tieA τ1 x.t (hdA l2 0)) py (([y] ++ [x]) ++ l2) 0 := join2p (l1 := [y] ++ [x]) (by simp) dyxl oyxl (fun _ => rfl) k1 k1l
    have k20 : DL (tieA τ1 x.t (hdA l2 0)) 0 l1 n1 := DL_out (a1y.symm.nin o1 (one_in x)) (a1l.symm.nin o1 (hdA_in l2)) k10
    generalize tieA τ1 x.t (hdA l2 0) = τ2 at k2 k20 ⊢
    have hd3 : (tA (l1 ++ (([y] ++ [x]) ++ l2))).Nodup := by simpa using hd
    have h03 : (0:Int) ∉ tA (l1 ++ (([y] ++ [x]) ++ l2)) := by simpa using h0
    have k3 : DL (tieA τ2 (lsA l1 0) y.t) 0 (l1 ++ (([y] ++ [x]) ++ l2)) 0 := join2 hd3 h03 (fun _ => rfl) k20 k2
    generalize tieA τ2 (lsA l1 0) y.t = τ3 at k3 ⊢
    have k3' : DL τ3 0 ((l1 ++ [y]) ++ ([x] ++ l2)) 0 := by simpa using k3
    obtain ⟨r1, r2⟩ := DL_app.1 k3'
    have k4 := join2 (l1 := l1 ++ [y]) (l2 := [x] ++ l2) (by simpa using hd) (by simpa using h0) (fun _ => rfl) r1 r2
    rw [e1] at k4
    have k4 : DL (tieA τ3 y.t x.t) 0 ((l1 ++ [y]) ++ ([x] ++ l2)) 0 := k4
    simpa using k4
  · have eh : hdA (m ++ [x]) 0 = hdA m 0 := by
      cases m with
      | nil => exact absurd rfl em
      | cons _ _ => rfl
    have el : lsA (y :: m) 0 = lsA m 0 := lsA_p em
    have dmx : (tA (m ++ [x])).Nodup := nod2.2 ⟨dm, dy, amy⟩
    have omx : (0:Int) ∉ tA (m ++ [x]) := z2.2 ⟨om, oy⟩
    have dmxl : (tA ((m ++ [x]) ++ l2)).Nodup := nod2.2 ⟨dmx, dl, Ap_l.2 ⟨aml, ayl⟩⟩
    have omxl : (0:Int) ∉ tA ((m ++ [x]) ++ l2) := z2.2 ⟨omx, ol⟩
    have emx : lsA (m ++ [x]) 0 = x.t := by rw [lsA_app]; rfl
    rw [el]
    have k1 : DL (tieA τ (lsA m 0) x.t) pm (m ++ [x]) nx := join2p em dmx omx (fun e => by cases e) hm hx
    have k1l : DL (tieA τ (lsA m 0) x.t) p2 l2 0 := DL_out (aml.nin ol (lsA_in m)) (ayl.nin ol (one_in x)) h2
    have k1y : DL (tieA τ (lsA m 0) x.t) py [y] ny := DL_out (axm.symm.nin ox (lsA_in m)) (axy.symm.nin ox (one_in x)) hy
    have k10 : DL (tieA τ (lsA m 0) x.t) 0 l1 n1 := DL_out (a1m.symm.nin o1 (lsA_in m)) (a1y.symm.nin o1 (one_in x)) h1
    generalize tieA τ (lsA m 0) x.t = τ1 at k1 k1l k1y k10 ⊢
    have k2 := join2p (l1 := m ++ [x]) (l2 := l2) (by simp) dmxl omxl (fun _ => rfl) k1 k1l
    rw [emx] at k2
    have k2y : DL (tieA τ1 x.t (hdA l2 0)) py [y] ny := DL_out (axy.symm.nin ox (one_in x)) (axl.symm.nin ox (hdA_in l2)) k1y
    have k20 : DL (tieA τ1 x.t (hdA l2 0)) 0 l1 n1 := DL_out (a1y.symm.nin o1 (one_in x)) (a1l.symm.nin o1 (hdA_in l2)) k10
    generalize tieA τ1 x.t (hdA l2 0) = τ2 at k2 k2y k20 ⊢
    have k3 : DL (tieA τ2 (lsA l1 0) y.t) 0 (l1 ++ [y]) ny := join2 (l2 := [y]) d2 o2 (fun e => by cases e) k20 k2y
    have k3r : DL (tieA τ2 (lsA l1 0) y.t) pm ((m ++ [x]) ++ l2) 0 :=
      DL_out ((Ap_r.2 ⟨Ap_r.2 ⟨a1m, a1y⟩, a1l⟩).nin omxl (lsA_in l1)) ((Ap_r.2 ⟨Ap_r.2 ⟨axm, axy⟩, axl⟩).nin omxl (one_in y)) k2
    generalize tieA τ2 (lsA l1 0) y.t = τ3 at k3 k3r ⊢
    have hd4 : (tA ((l1 ++ [y]) ++ ((m ++ [x]) ++ l2))).Nodup := by simpa using hd
    have h04 : (0:Int) ∉ tA ((l1 ++ [y]) ++ ((m ++ [x]) ++ l2)) := by simpa using h0
    have k4 := join2 (l1 := l1 ++ [y]) (l2 := (m ++ [x]) ++ l2) hd4 h04 (fun _ => rfl) k3 k3r
    have e5 : hdA ((m ++ [x]) ++ l2) 0 = hdA (m ++ [x]) 0 := by
      cases m with
      | nil => exact absurd rfl em
      | cons _ _ => rfl
    rw [e1, e5] at k4
    simpa using k4
end Go.Sx.M

namespace Go.Sx.M
open Go Go.Sx
noncomputable def delT (t : TS) (a p n:Int) : TS := ⟨tieM (stM t.M a sl0) p n, tieF t.f p n, IntKind.i64.wrap (t.c - 1)⟩
theorem RepS.del {t : TS} {l1 l2 : List Nd} {g : Nd} {σ : Int → Sl} (h : RepS t (l1 ++ g :: l2) σ) (hl : (l1 ++ g :: l2).length ≤ 100000) :
    ∃ τ, RepS (delT t g.t (lsA l1 0) (hdA l2 0)) (l1 ++ l2) τ ∧ (delT t g.t (lsA l1 0) (hdA l2 0)).M.size = t.M.size := by
  have ok1 : ∀ y, y ∈ l1 → NdOk t.M.size y := fun y hy => h.ok y (List.mem_append_left _ hy)
  have ok2 : ∀ y, y ∈ l2 → NdOk t.M.size y := fun y hy => h.ok y (List.mem_append_right _ (List.mem_cons_of_mem _ hy))
  have okg := h.ok g (List.mem_append_right _ List.mem_cons_self)
  obtain ⟨E1, _, z1⟩ := h.E.st okg.at_ sl0_R sl0_right
  obtain ⟨E2, z2'⟩ := E1.tie (a := lsA l1 0) (b := hdA l2 0) (by rw [z1]; exact lsA_ok ok1) (by rw [z1]; exact hdA_ok ok2)
  have sz := z2'.trans z1
  have nd := h.nd
  rw [tA_app] at nd
  obtain ⟨d1, d2, d3⟩ := List.nodup_append.1 nd
  have d2' := List.nodup_cons.1 d2
  have g1 : g.t ∉ tA l1 := fun e => d3 _ e _ List.mem_cons_self rfl
  have g2 : g.t ∉ tA l2 := d2'.1
  have hd : (tA (l1 ++ l2)).Nodup := by
    rw [tA_app]
    exact List.nodup_append.2 ⟨d1, d2'.2, fun a ha b hb => d3 a ha b (List.mem_cons_of_mem _ hb)⟩
  have z0 := h.z0
  have h0 : (0:Int) ∉ tA (l1 ++ l2) := by
    rw [tA_app] at z0 ⊢
    intro e
    rcases List.mem_append.1 e with e | e
    · exact z0 (List.mem_append_left _ e)
    · exact z0 (List.mem_append_right _ (List.mem_cons_of_mem _ e))
  obtain ⟨q1, _, q3⟩ := DL_app.1 h.dl
  refine ⟨tieA (setA σ g.t sl0) (lsA l1 0) (hdA l2 0), ⟨E2, ?_, ?_, hd, ?_, ?_, ?_⟩, sz⟩
  · show tieF t.f (lsA l1 0) (hdA l2 0) = _
    exact tieF_hd ok1 fun e => by
      rw [h.f]
      cases l1 with
      | nil => exact absurd rfl e
      | cons _ _ => rfl
  · show IntKind.i64.wrap (t.c - 1) = _
    rw [h.c]
    simp only [List.length_append, List.length_cons] at hl ⊢
    rw [wi (by omega) (by omega)]
    omega
  · intro y hy
    show NdOk (tieM (stM t.M g.t sl0) (lsA l1 0) (hdA l2 0)).size y
    rw [sz]
    rcases List.mem_append.1 hy with hy | hy
    · exact ok1 y hy
    · exact ok2 y hy
  · exact join2 hd h0 (fun _ => rfl) (DL_congr (fun y hy => setA_other fun e => g1 (by rw [← e]; exact mem_tA.2 ⟨y, hy, rfl⟩)) q1) (DL_congr (fun y hy => setA_other fun e => g2 (by rw [← e]; exact mem_tA.2 ⟨y, hy, rfl⟩)) q3)
  · intro c hc hs
    have hs : slOK (tieM (stM t.M g.t sl0) (lsA l1 0) (hdA l2 0)).size c := hs
    rw [sz] at hs
    rw [tA_app] at hc
    have c1 : c ∉ tA l1 := fun e => hc (List.mem_append_left _ e)
    have c2 : c ∉ tA l2 := fun e => hc (List.mem_append_right _ e)
    rw [tieA_other (ends_ne c1).1 (ends_ne c2).2]
    by_cases e : c = g.t
    · rw [e, setA_same]
    · rw [setA_other e]
      refine h.out c (fun q => ?_) hs
      rw [tA_app] at q
      rcases List.mem_append.1 q with q | q
      · exact c1 q
      · rcases List.mem_cons.1 q with q | q
        · exact e q
        · exact c2 q
def dN (g : Nd) : Nd := { g with d := g.d - 1 }
theorem RepS.dec {t : TS} {l1 l2 : List Nd} {g : Nd} {σ : Int → Sl} (h : RepS t (l1 ++ g :: l2) σ) (hd : 1 ≤ g.d) :
    ∃ τ, RepS ⟨tD t.M g.t, t.f, t.c⟩ (l1 ++ dN g :: l2) τ ∧ (tD t.M g.t).size = t.M.size := by
  have okg := h.ok g (List.mem_append_right _ List.mem_cons_self)
  obtain ⟨q1, q2, q3⟩ := DL_app.1 h.dl
  have hx : NdOk t.M.size (dN g) := ⟨okg.at_, okg.nz, okg.k, okg.R, okg.r, by show 0 ≤ g.d - 1; omega, by have := okg.d1; show g.d - 1 ≤ 4096; omega⟩
  have R := h.upd hx rfl
  have hnz : (g.t == 0) = false := beq_eq_false_iff_ne.2 okg.nz
  have hw : IntKind.i64.wrap (g.d - 1) = g.d - 1 := by have := okg.d1; rw [wi (by omega) (by omega)]
  have hl := (h.E.ld okg.at_).1
  have hc : tD t.M g.t = stM t.M g.t (sN (dN g) (hdA l2 0) (lsA l1 0)) := by
    unfold tD
    rw [hnz, mrgM_f, hl, q2]
    show stM t.M g.t { sN g (hdA l2 0) (lsA l1 0) with d := IntKind.i64.wrap (g.d - 1) } = _
    rw [hw]
    rfl
  rw [← hc] at R
  exact ⟨_, R, tD_size _ _⟩
theorem RepS.decs : ∀ {l2 : List Nd} {t : TS} {l1 l3 : List Nd} {σ : Int → Sl}, RepS t (l1 ++ l2 ++ l3) σ → (∀ g, g ∈ l2 → 1 ≤ g.d) →
    ∃ τ, RepS ⟨(tA l2).foldl tD t.M, t.f, t.c⟩ (l1 ++ l2.map dN ++ l3) τ ∧ ((tA l2).foldl tD t.M).size = t.M.size
  | [], t, l1, l3, σ, h, _ => ⟨σ, h, rfl⟩
  | g :: l2, t, l1, l3, σ, h, hd => by
    have h : RepS t (l1 ++ g :: (l2 ++ l3)) σ := by simpa using h
    obtain ⟨τ, R, z⟩ := h.dec (hd g List.mem_cons_self)
    have R : RepS ⟨tD t.M g.t, t.f, t.c⟩ ((l1 ++ [dN g]) ++ l2 ++ l3) τ := by simpa using R
    obtain ⟨τ2, R2, z2⟩ := RepS.decs R fun y hy => hd y (List.mem_cons_of_mem _ hy)
    exact ⟨τ2, by simpa [tA] using R2, z2.trans z⟩
end Go.Sx.M

namespace Go.Sx.M
open Go Go.Sx
def swpN (l : List Nd) (i k:Nat) (a b:Int) : List Nd :=
  cnd (Nat.beq i k) ((((l.set i { gN l i with t := b }).set k { gN (l.set i { gN l i with t := b }) k with t := a })).set i { gN ((l.set i { gN l i with t := b }).set k { gN (l.set i { gN l i with t := b }) k with t := a }) i with t := a })
    ((l.set i { gN l i with t := b }).set k { gN (l.set i { gN l i with t := b }) k with t := a })
def swR (z:Int) (l : List Nd) (a b:Int) : Int := cnd (hdT z l a != 0) (hdT z l a) (cnd (hdT z l b != 0) (hdT z l b) 0)
def swL (z:Int) (l : List Nd) (a b:Int) : List Nd := cnd (hdT z l a != 0) l (cnd (hdT z l b != 0) l (swpN l (fnd l a).toNat (fnd l b).toNat a b))
theorem oth_ne {v a b : Int} (h1 : v ≠ a) (h2 : v ≠ b) : f180_0 v a b = v := by simp [f180_0, cnd_eq, h1, h2]
theorem oth_a (a b:Int) : f180_0 a a b = b := by simp [f180_0, cnd_eq]
theorem oth_b {a b : Int} (h : a ≠ b) : f180_0 b a b = a := by simp [f180_0, cnd_eq, h.symm]
theorem tieF_ne {f a b : Int} (h : a ≠ 0) : tieF f a b = f := by unfold tieF; rw [beq_eq_false_iff_ne.2 h]; rfl
theorem end_ne {l : List Nd} {c e : Int} (hc : c ∉ tA l) (he : e = 0 ∨ e ∈ tA l) : c ≠ e ∨ e = 0 :=
  he.elim .inr fun h => .inl fun q => hc (by rw [q]; exact h)
theorem gN_mid (l1 l2 : List Nd) (g : Nd) : gN (l1 ++ g :: l2) l1.length = g := by
  simp [gN, List.getD]
theorem RepS.sw_core {t : TS} {l l' : List Nd} {σ τ : Int → Sl} {a b : Int} {p1 n1 p2 n2 : Int} (h : RepS t l σ) (ha : slOK t.M.size a) (hb : slOK t.M.size b) (hab : a ≠ b) (hnd : (tA l').Nodup)
    (hset : ∀ c, c ∈ tA l ↔ c ∈ tA l') (hma : a ∈ tA l) (hmb : b ∈ tA l) (hok : ∀ x, x ∈ l' → NdOk t.M.size x) (hlen : l'.length = l.length)
    (o1 : f180_0 (Go.Sx.M.ld t.M a).p a b = p1) (o2 : f180_0 (Go.Sx.M.ld t.M a).x a b = n1) (o3 : f180_0 (Go.Sx.M.ld t.M b).p a b = p2) (o4 : f180_0 (Go.Sx.M.ld t.M b).x a b = n2)
    (i1 : p1 = 0 ∨ p1 ∈ tA l') (i2 : n1 = 0 ∨ n1 ∈ tA l') (i3 : p2 = 0 ∨ p2 ∈ tA l') (i4 : n2 = 0 ∨ n2 ∈ tA l')
    (hf : swF4 t a b = hdA l' 0)
    (hτ : τ = tieA (tieA (tieA (tieA (setA (setA σ a (σ b)) b (σ a)) p1 b) b n1) p2 a) a n2) (hdl : DL τ 0 l' 0) :
    RepS ⟨swM4 t a b, swF4 t a b, t.c⟩ l' τ ∧ (swM4 t a b).size = t.M.size := by
  have okm : ∀ c, c = 0 ∨ c ∈ tA l' → c = 0 ∨ slOK t.M.size c := fun c hc => hc.imp id fun hc => by
    obtain ⟨x, hx, rfl⟩ := mem_tA.1 hc
    exact (hok x hx).at_
  obtain ⟨ka, kar⟩ := h.E.ok a ha
  obtain ⟨kb, kbr⟩ := h.E.ok b hb
  have la := (h.E.ld ha).1
  have lb := (h.E.ld hb).1
  obtain ⟨E1, _, z1⟩ := h.E.st ha kb kbr
  obtain ⟨E2, _, z2⟩ := E1.st (a := b) (by rw [z1]; exact hb) ka kar
  have eM0 : swM0 t a b = stM (stM t.M a (σ b)) b (σ a) := by unfold swM0; rw [la, lb]
  rw [← eM0] at E2 z2
  have s0 : (swM0 t a b).size = t.M.size := z2.trans z1
  obtain ⟨E3, z3⟩ := E2.tie (a := p1) (b := b) (by rw [s0]; exact okm _ i1) (by rw [s0]; exact .inr hb)
  have eM1 : swM1 t a b = tieM (swM0 t a b) p1 b := by unfold swM1; rw [o1]
  rw [← eM1] at E3 z3
  have s1 := z3.trans s0
  obtain ⟨E4, z4⟩ := E3.tie (a := b) (b := n1) (by rw [s1]; exact .inr hb) (by rw [s1]; exact okm _ i2)
  have eM2 : swM2 t a b = tieM (swM1 t a b) b n1 := by unfold swM2; rw [o2]
  rw [← eM2] at E4 z4
  have s2 := z4.trans s1
  obtain ⟨E5, z5⟩ := E4.tie (a := p2) (b := a) (by rw [s2]; exact okm _ i3) (by rw [s2]; exact .inr ha)
  have eM3 : swM3 t a b = tieM (swM2 t a b) p2 a := by unfold swM3; rw [o3]
  rw [← eM3] at E5 z5
  have s3 := z5.trans s2
  obtain ⟨E6, z6⟩ := E5.tie (a := a) (b := n2) (by rw [s3]; exact .inr ha) (by rw [s3]; exact okm _ i4)
  have eM4 : swM4 t a b = tieM (swM3 t a b) a n2 := by unfold swM4; rw [o4]
  rw [← eM4] at E6 z6
  have s4 := z6.trans s3
  subst hτ
  refine ⟨⟨E6, hf, ?_, hnd, ?_, hdl, ?_⟩, s4⟩
  · show t.c = _
    rw [h.c, hlen]
  · intro x hx
    show NdOk (swM4 t a b).size x
    rw [s4]
    exact hok x hx
  · intro c hc hs
    have hs : slOK (swM4 t a b).size c := hs
    rw [s4] at hs
    have ca : c ≠ a := fun e => hc ((hset c).1 (by rw [e]; exact hma))
    have cb : c ≠ b := fun e => hc ((hset c).1 (by rw [e]; exact hmb))
    rw [tieA_other (.inl ca) (end_ne hc i4), tieA_other (end_ne hc i3) (.inl ca), tieA_other (.inl cb) (end_ne hc i2), tieA_other (end_ne hc i1) (.inl cb), setA_other cb, setA_other ca]
    exact h.out c (fun e => hc ((hset c).1 e)) hs
set_option maxHeartbeats 1000000 in
theorem RepS.sw1 {t : TS} {l1 m l2 : List Nd} {x y : Nd} {σ : Int → Sl} (h : RepS t ((((l1 ++ [x]) ++ m) ++ [y]) ++ l2) σ) :
    ∃ τ, RepS ⟨swM4 t x.t y.t, swF4 t x.t y.t, t.c⟩ ((((l1 ++ [{ x with t := y.t }]) ++ m) ++ [{ y with t := x.t }]) ++ l2) τ ∧ (swM4 t x.t y.t).size = t.M.size := by
  obtain ⟨d4, dl, a4⟩ := nod2.1 h.nd
  obtain ⟨d3, dy, a3⟩ := nod2.1 d4
  obtain ⟨d2, dm, a2⟩ := nod2.1 d3
  obtain ⟨d1, dx, a1⟩ := nod2.1 d2
  obtain ⟨o4, ol⟩ := z2.1 h.z0
  obtain ⟨o3, oy⟩ := z2.1 o4
  obtain ⟨o2, om⟩ := z2.1 o3
  obtain ⟨o1, ox⟩ := z2.1 o2
  obtain ⟨⟨⟨a1l, axl⟩, aml⟩, ayl⟩ : ((Ap l1 l2 ∧ Ap [x] l2) ∧ Ap m l2) ∧ Ap [y] l2 := by
    have := Ap_l.1 a4; obtain ⟨q, r⟩ := this; have := Ap_l.1 q; obtain ⟨q, s⟩ := this; exact ⟨⟨Ap_l.1 q, s⟩, r⟩
  obtain ⟨⟨a1y, axy⟩, amy⟩ : (Ap l1 [y] ∧ Ap [x] [y]) ∧ Ap m [y] := by
    have := Ap_l.1 a3; obtain ⟨q, r⟩ := this; exact ⟨Ap_l.1 q, r⟩
  obtain ⟨a1m, axm⟩ := Ap_l.1 a2
  have a1x : Ap l1 [x] := a1
  have hxm : x ∈ (((l1 ++ [x]) ++ m) ++ [y]) ++ l2 := by simp
  have hym : y ∈ (((l1 ++ [x]) ++ m) ++ [y]) ++ l2 := by simp
  have okx := h.ok x hxm
  have oky := h.ok y hym
  have mem1 : ∀ (z : Nd), z.t ∈ tA [z] := fun z => by simp [tA]
  have hab : x.t ≠ y.t := axy x.t (mem1 x) y.t (mem1 y)
  -- what stands in the two slots
  obtain ⟨q4, ql⟩ := DL_app.1 h.dl
  obtain ⟨q3, qy⟩ := DL_app.1 q4
  obtain ⟨q2, qm⟩ := DL_app.1 q3
  obtain ⟨q1, qx⟩ := DL_app.1 q2
  obtain ⟨qx, _⟩ := qx
  obtain ⟨qy, _⟩ := qy
  have la := (h.E.ld okx.at_).1
  have lb := (h.E.ld oky.at_).1
  -- the four ends
  have hp1 : (Go.Sx.M.ld t.M x.t).p = lsA l1 0 := by rw [la, qx]; rfl
  have hn1 : (Go.Sx.M.ld t.M x.t).x = hdA (m ++ [y]) 0 := by
    rw [la, qx]
    show hdA m (hdA [y] (hdA l2 0)) = _
    rw [hdA_app]
    rfl
  have hp2 : (Go.Sx.M.ld t.M y.t).p = lsA (x :: m) 0 := by
    rw [lb, qy]
    show lsA ((l1 ++ [x]) ++ m) 0 = _
    rw [lsA_app, lsA_app]
    rfl
  have hn2 : (Go.Sx.M.ld t.M y.t).x = hdA l2 0 := by rw [lb, qy]; rfl
  have nx0 : x.t ≠ 0 := okx.nz
  have ny0 : y.t ≠ 0 := oky.nz
  have nin1 : ∀ {k : List Nd} {e : Int}, Ap k [x] → Ap k [y] → (e = 0 ∨ e ∈ tA k) → e ≠ x.t ∧ e ≠ y.t := by
    intro k e h1 h2 he
    refine ⟨fun q => ?_, fun q => ?_⟩
    · rcases he with he | he
      · exact nx0 (by rw [← q]; exact he)
      · exact h1 e he x.t (mem1 x) q
    · rcases he with he | he
      · exact ny0 (by rw [← q]; exact he)
      · exact h2 e he y.t (mem1 y) q
  have oo1 : f180_0 (Go.Sx.M.ld t.M x.t).p x.t y.t = lsA l1 0 := by
    rw [hp1]
    obtain ⟨u, v⟩ := nin1 a1x a1y (lsA_in l1)
    exact oth_ne u v
  have oo2 : f180_0 (Go.Sx.M.ld t.M x.t).x x.t y.t = hdA (m ++ [{ y with t := x.t }]) 0 := by
    rw [hn1]
    by_cases em : m = []
    · subst em
      exact oth_b hab
    · have e1 : hdA (m ++ [y]) 0 = hdA m 0 := by
        cases m with
        | nil => exact absurd rfl em
        | cons _ _ => rfl
      have e2 : hdA (m ++ [{ y with t := x.t }]) 0 = hdA m 0 := by
        cases m with
        | nil => exact absurd rfl em
        | cons _ _ => rfl
      rw [e1, e2]
      obtain ⟨u, v⟩ := nin1 axm.symm amy (hdA_in m)
      exact oth_ne u v
  have oo3 : f180_0 (Go.Sx.M.ld t.M y.t).p x.t y.t = lsA ({ x with t := y.t } :: m) 0 := by
    rw [hp2]
    by_cases em : m = []
    · subst em
      exact oth_a _ _
    · have e1 : lsA (x :: m) 0 = lsA m 0 := lsA_p em
      have e2 : lsA ({ x with t := y.t } :: m) 0 = lsA m 0 := lsA_p em
      rw [e1, e2]
      obtain ⟨u, v⟩ := nin1 axm.symm amy (lsA_in m)
      exact oth_ne u v
  have oo4 : f180_0 (Go.Sx.M.ld t.M y.t).x x.t y.t = hdA l2 0 := by
    rw [hn2]
    obtain ⟨u, v⟩ := nin1 axl.symm ayl.symm (hdA_in l2)
    exact oth_ne u v
  -- the new list
  have b1x : Ap l1 [{ x with t := y.t }] := a1y
  have bxm : Ap [{ x with t := y.t }] m := amy.symm
  have bmy : Ap m [{ y with t := x.t }] := axm.symm
  have b1y : Ap l1 [{ y with t := x.t }] := a1x
  have bxy : Ap [{ x with t := y.t }] [{ y with t := x.t }] := axy.symm
  have bxl : Ap [{ x with t := y.t }] l2 := ayl
  have byl : Ap [{ y with t := x.t }] l2 := axl
  have n2 : (tA (l1 ++ [{ x with t := y.t }])).Nodup := nod2.2 ⟨d1, dy, b1x⟩
  have n3 : (tA ((l1 ++ [{ x with t := y.t }]) ++ m)).Nodup := nod2.2 ⟨n2, dm, Ap_l.2 ⟨a1m, bxm⟩⟩
  have n4 : (tA (((l1 ++ [{ x with t := y.t }]) ++ m) ++ [{ y with t := x.t }])).Nodup := nod2.2 ⟨n3, dx, Ap_l.2 ⟨Ap_l.2 ⟨b1y, bxy⟩, bmy⟩⟩
  have n5 : (tA ((((l1 ++ [{ x with t := y.t }]) ++ m) ++ [{ y with t := x.t }]) ++ l2)).Nodup := nod2.2 ⟨n4, dl, Ap_l.2 ⟨Ap_l.2 ⟨Ap_l.2 ⟨a1l, bxl⟩, aml⟩, byl⟩⟩
  have z5 : (0:Int) ∉ tA ((((l1 ++ [{ x with t := y.t }]) ++ m) ++ [{ y with t := x.t }]) ++ l2) := z2.2 ⟨z2.2 ⟨z2.2 ⟨z2.2 ⟨o1, oy⟩, om⟩, ox⟩, ol⟩
  have hset : ∀ c, c ∈ tA ((((l1 ++ [x]) ++ m) ++ [y]) ++ l2) ↔ c ∈ tA ((((l1 ++ [{ x with t := y.t }]) ++ m) ++ [{ y with t := x.t }]) ++ l2) := by
    intro c
    simp only [tA_app, List.mem_append]
    simp only [tA, List.map_cons, List.map_nil, List.mem_singleton]
    grind
  have same : ∀ {k : List Nd}, Ap [x] k → Ap [y] k → ∀ z, z ∈ k → setA (setA σ x.t (σ y.t)) y.t (σ x.t) z.t = σ z.t := by
    intro k h1 h2 z hz
    have hm : z.t ∈ tA k := mem_tA.2 ⟨z, hz, rfl⟩
    rw [setA_other fun e => h2 y.t (mem1 y) z.t hm e.symm, setA_other fun e => h1 x.t (mem1 x) z.t hm e.symm]
  have D := DL_sw1 (τ := setA (setA σ x.t (σ y.t)) y.t (σ x.t)) (x := { x with t := y.t }) (y := { y with t := x.t }) (px := lsA l1 0) (nx := hdA (m ++ [y]) 0) (py := lsA (x :: m) 0) (ny := hdA l2 0) n5 z5
    (DL_congr (same a1x.symm a1y.symm) q1) ⟨by
      show setA (setA σ x.t (σ y.t)) y.t (σ x.t) y.t = sN x (hdA (m ++ [y]) 0) (lsA l1 0)
      rw [setA_same, ← la, ← hn1, ← hp1, la, qx]
      rfl, trivial⟩
    (DL_congr (same axm amy.symm) qm) ⟨by
      show setA (setA σ x.t (σ y.t)) y.t (σ x.t) x.t = sN y (hdA l2 0) (lsA (x :: m) 0)
      rw [setA_other hab, setA_same, ← lb, ← hn2, ← hp2, lb, qy]
      rfl, trivial⟩
    (DL_congr (same axl ayl) ql)
  have memr : ∀ {k : List Nd}, (∀ z, z ∈ k → z ∈ (((l1 ++ [{ x with t := y.t }]) ++ m) ++ [{ y with t := x.t }]) ++ l2) → ∀ {e : Int}, (e = 0 ∨ e ∈ tA k) → (e = 0 ∨ e ∈ tA ((((l1 ++ [{ x with t := y.t }]) ++ m) ++ [{ y with t := x.t }]) ++ l2)) := by
    intro k hk e he
    refine he.imp id fun he => ?_
    obtain ⟨z, hz, rfl⟩ := mem_tA.1 he
    exact mem_tA.2 ⟨z, hk z hz, rfl⟩
  refine ⟨_, RepS.sw_core h okx.at_ oky.at_ hab n5 hset (mem_tA.2 ⟨x, hxm, rfl⟩) (mem_tA.2 ⟨y, hym, rfl⟩) ?_ (by simp) oo1 oo2 oo3 oo4
    (memr (by intro z hz; simp [hz]) (lsA_in l1)) (memr (by intro z hz; simp at hz ⊢; grind) (hdA_in (m ++ [{ y with t := x.t }]))) (memr (by intro z hz; simp at hz ⊢; grind) (lsA_in ({ x with t := y.t } :: m))) (memr (by intro z hz; simp [hz]) (hdA_in l2)) ?_ rfl D⟩
  · intro z hz
    simp only [List.mem_append, List.mem_singleton] at hz
    rcases hz with (((hz | rfl) | hz) | rfl) | hz
    · exact h.ok z (by simp [hz])
    · exact ⟨oky.at_, oky.nz, okx.k, okx.R, okx.r, okx.d0, okx.d1⟩
    · exact h.ok z (by simp [hz])
    · exact ⟨okx.at_, okx.nz, oky.k, oky.R, oky.r, oky.d0, oky.d1⟩
    · exact h.ok z (by simp [hz])
  · have nls : lsA ({ x with t := y.t } :: m) 0 ≠ 0 := by
      intro e
      rcases List.eq_nil_or_concat m with rfl | ⟨m', w, rfl⟩
      · exact ny0 e
      · have : lsA ({ x with t := y.t } :: (m' ++ [w])) 0 = w.t := by
          show lsA (m' ++ [w]) y.t = _
          rw [lsA_app]
          rfl
        simp only [List.concat_eq_append] at e
        rw [this] at e
        exact (h.ok w (by simp)).nz e
    unfold swF4 swF3 swF2 swF1
    rw [oo1, oo2, oo3, oo4, tieF_ne nx0, tieF_ne nls, tieF_ne ny0]
    have ok1 : ∀ z, z ∈ l1 → NdOk t.M.size z := fun z hz => h.ok z (by simp [hz])
    have := tieF_hd (n := t.M.size) (l1 := l1) (l2 := [{ x with t := y.t }]) (f := t.f) ok1 fun e => by
      rw [h.f]
      cases l1 with
      | nil => exact absurd rfl e
      | cons _ _ => rfl
    have this : tieF t.f (lsA l1 0) y.t = hdA (l1 ++ [{ x with t := y.t }]) 0 := this
    rw [this]
    cases l1 <;> rfl
set_option maxHeartbeats 1000000 in
theorem RepS.sw2 {t : TS} {l1 m l2 : List Nd} {x y : Nd} {σ : Int → Sl} (h : RepS t ((((l1 ++ [y]) ++ m) ++ [x]) ++ l2) σ) :
    ∃ τ, RepS ⟨swM4 t x.t y.t, swF4 t x.t y.t, t.c⟩ ((((l1 ++ [{ y with t := x.t }]) ++ m) ++ [{ x with t := y.t }]) ++ l2) τ ∧ (swM4 t x.t y.t).size = t.M.size := by
  obtain ⟨d4, dl, a4⟩ := nod2.1 h.nd
  obtain ⟨d3, dx, a3⟩ := nod2.1 d4
  obtain ⟨d2, dm, a2⟩ := nod2.1 d3
  obtain ⟨d1, dy, a1⟩ := nod2.1 d2
  obtain ⟨o4, ol⟩ := z2.1 h.z0
  obtain ⟨o3, ox⟩ := z2.1 o4
  obtain ⟨o2, om⟩ := z2.1 o3
  obtain ⟨o1, oy⟩ := z2.1 o2
  obtain ⟨⟨⟨a1l, ayl⟩, aml⟩, axl⟩ : ((Ap l1 l2 ∧ Ap [y] l2) ∧ Ap m l2) ∧ Ap [x] l2 := by
    have := Ap_l.1 a4; obtain ⟨q, r⟩ := this; have := Ap_l.1 q; obtain ⟨q, s⟩ := this; exact ⟨⟨Ap_l.1 q, s⟩, r⟩
  obtain ⟨⟨a1x, ayx⟩, amx⟩ : (Ap l1 [x] ∧ Ap [y] [x]) ∧ Ap m [x] := by
    have := Ap_l.1 a3; obtain ⟨q, r⟩ := this; exact ⟨Ap_l.1 q, r⟩
  obtain ⟨a1m, aym⟩ := Ap_l.1 a2
  have a1y : Ap l1 [y] := a1
  have hxm : x ∈ (((l1 ++ [y]) ++ m) ++ [x]) ++ l2 := by simp
  have hym : y ∈ (((l1 ++ [y]) ++ m) ++ [x]) ++ l2 := by simp
  have okx := h.ok x hxm
  have oky := h.ok y hym
  have mem1 : ∀ (z : Nd), z.t ∈ tA [z] := fun z => by simp [tA]
  have hab : x.t ≠ y.t := fun e => ayx y.t (mem1 y) x.t (mem1 x) e.symm
  obtain ⟨q4, ql⟩ := DL_app.1 h.dl
  obtain ⟨q3, qx⟩ := DL_app.1 q4
  obtain ⟨q2, qm⟩ := DL_app.1 q3
  obtain ⟨q1, qy⟩ := DL_app.1 q2
  obtain ⟨qx, _⟩ := qx
  obtain ⟨qy, _⟩ := qy
  have la := (h.E.ld okx.at_).1
  have lb := (h.E.ld oky.at_).1
  have hp2 : (Go.Sx.M.ld t.M y.t).p = lsA l1 0 := by rw [lb, qy]; rfl
  have hn2 : (Go.Sx.M.ld t.M y.t).x = hdA (m ++ [x]) 0 := by
    rw [lb, qy]
    show hdA m (hdA [x] (hdA l2 0)) = _
    rw [hdA_app]
    rfl
  have hp1 : (Go.Sx.M.ld t.M x.t).p = lsA (y :: m) 0 := by
    rw [la, qx]
    show lsA ((l1 ++ [y]) ++ m) 0 = _
    rw [lsA_app, lsA_app]
    rfl
  have hn1 : (Go.Sx.M.ld t.M x.t).x = hdA l2 0 := by rw [la, qx]; rfl
  have nx0 : x.t ≠ 0 := okx.nz
  have ny0 : y.t ≠ 0 := oky.nz
  have nin1 : ∀ {k : List Nd} {e : Int}, Ap k [x] → Ap k [y] → (e = 0 ∨ e ∈ tA k) → e ≠ x.t ∧ e ≠ y.t := by
    intro k e h1 h2 he
    refine ⟨fun q => ?_, fun q => ?_⟩
    · rcases he with he | he
      · exact nx0 (by rw [← q]; exact he)
      · exact h1 e he x.t (mem1 x) q
    · rcases he with he | he
      · exact ny0 (by rw [← q]; exact he)
      · exact h2 e he y.t (mem1 y) q
  have oo3 : f180_0 (Go.Sx.M.ld t.M y.t).p x.t y.t = lsA l1 0 := by
    rw [hp2]
    obtain ⟨u, v⟩ := nin1 a1x a1y (lsA_in l1)
    exact oth_ne u v
  have oo4 : f180_0 (Go.Sx.M.ld t.M y.t).x x.t y.t = hdA (m ++ [{ x with t := y.t }]) 0 := by
    rw [hn2]
    by_cases em : m = []
    · subst em
      exact oth_a _ _
    · have e1 : hdA (m ++ [x]) 0 = hdA m 0 := by
        cases m with
        | nil => exact absurd rfl em
        | cons _ _ => rfl
      have e2 : hdA (m ++ [{ x with t := y.t }]) 0 = hdA m 0 := by
        cases m with
        | nil => exact absurd rfl em
        | cons _ _ => rfl
      rw [e1, e2]
      obtain ⟨u, v⟩ := nin1 amx aym.symm (hdA_in m)
      exact oth_ne u v
  have oo1 : f180_0 (Go.Sx.M.ld t.M x.t).p x.t y.t = lsA ({ y with t := x.t } :: m) 0 := by
    rw [hp1]
    by_cases em : m = []
    · subst em
      exact oth_b hab
    · have e1 : lsA (y :: m) 0 = lsA m 0 := lsA_p em
      have e2 : lsA ({ y with t := x.t } :: m) 0 = lsA m 0 := lsA_p em
      rw [e1, e2]
      obtain ⟨u, v⟩ := nin1 amx aym.symm (lsA_in m)
      exact oth_ne u v
  have oo2 : f180_0 (Go.Sx.M.ld t.M x.t).x x.t y.t = hdA l2 0 := by
    rw [hn1]
    obtain ⟨u, v⟩ := nin1 axl.symm ayl.symm (hdA_in l2)
    exact oth_ne u v
  have b1y : Ap l1 [{ y with t := x.t }] := a1x
  have bym : Ap [{ y with t := x.t }] m := amx.symm
  have bmx : Ap m [{ x with t := y.t }] := aym.symm
  have b1x : Ap l1 [{ x with t := y.t }] := a1y
  have byx : Ap [{ y with t := x.t }] [{ x with t := y.t }] := ayx.symm
  have byl : Ap [{ y with t := x.t }] l2 := axl
  have bxl : Ap [{ x with t := y.t }] l2 := ayl
  have n2 : (tA (l1 ++ [{ y with t := x.t }])).Nodup := nod2.2 ⟨d1, dx, b1y⟩
  have n3 : (tA ((l1 ++ [{ y with t := x.t }]) ++ m)).Nodup := nod2.2 ⟨n2, dm, Ap_l.2 ⟨a1m, bym⟩⟩
  have n4 : (tA (((l1 ++ [{ y with t := x.t }]) ++ m) ++ [{ x with t := y.t }])).Nodup := nod2.2 ⟨n3, dy, Ap_l.2 ⟨Ap_l.2 ⟨b1x, byx⟩, bmx⟩⟩
  have n5 : (tA ((((l1 ++ [{ y with t := x.t }]) ++ m) ++ [{ x with t := y.t }]) ++ l2)).Nodup := nod2.2 ⟨n4, dl, Ap_l.2 ⟨Ap_l.2 ⟨Ap_l.2 ⟨a1l, byl⟩, aml⟩, bxl⟩⟩
  have z5 : (0:Int) ∉ tA ((((l1 ++ [{ y with t := x.t }]) ++ m) ++ [{ x with t := y.t }]) ++ l2) := z2.2 ⟨z2.2 ⟨z2.2 ⟨z2.2 ⟨o1, ox⟩, om⟩, oy⟩, ol⟩
  have hset : ∀ c, c ∈ tA ((((l1 ++ [y]) ++ m) ++ [x]) ++ l2) ↔ c ∈ tA ((((l1 ++ [{ y with t := x.t }]) ++ m) ++ [{ x with t := y.t }]) ++ l2) := by
    intro c
    simp only [tA_app, List.mem_append]
    simp only [tA, List.map_cons, List.map_nil, List.mem_singleton]
    grind
  have same : ∀ {k : List Nd}, Ap [x] k → Ap [y] k → ∀ z, z ∈ k → setA (setA σ x.t (σ y.t)) y.t (σ x.t) z.t = σ z.t := by
    intro k h1 h2 z hz
    have hm : z.t ∈ tA k := mem_tA.2 ⟨z, hz, rfl⟩
    rw [setA_other fun e => h2 y.t (mem1 y) z.t hm e.symm, setA_other fun e => h1 x.t (mem1 x) z.t hm e.symm]
  have D := DL_sw2 (τ := setA (setA σ x.t (σ y.t)) y.t (σ x.t)) (x := { x with t := y.t }) (y := { y with t := x.t }) (px := lsA (y :: m) 0) (nx := hdA l2 0) (py := lsA l1 0) (ny := hdA (m ++ [x]) 0) n5 z5
    (DL_congr (same a1x.symm a1y.symm) q1) ⟨by
      show setA (setA σ x.t (σ y.t)) y.t (σ x.t) y.t = sN x (hdA l2 0) (lsA (y :: m) 0)
      rw [setA_same, ← la, ← hn1, ← hp1, la, qx]
      rfl, trivial⟩
    (DL_congr (same amx.symm aym) qm) ⟨by
      show setA (setA σ x.t (σ y.t)) y.t (σ x.t) x.t = sN y (hdA (m ++ [x]) 0) (lsA l1 0)
      rw [setA_other hab, setA_same, ← lb, ← hn2, ← hp2, lb, qy]
      rfl, trivial⟩
    (DL_congr (same axl ayl) ql)
  have memr : ∀ {k : List Nd}, (∀ z, z ∈ k → z ∈ (((l1 ++ [{ y with t := x.t }]) ++ m) ++ [{ x with t := y.t }]) ++ l2) → ∀ {e : Int}, (e = 0 ∨ e ∈ tA k) → (e = 0 ∨ e ∈ tA ((((l1 ++ [{ y with t := x.t }]) ++ m) ++ [{ x with t := y.t }]) ++ l2)) := by
    intro k hk e he
    refine he.imp id fun he => ?_
    obtain ⟨z, hz, rfl⟩ := mem_tA.1 he
    exact mem_tA.2 ⟨z, hk z hz, rfl⟩
  refine ⟨_, RepS.sw_core h okx.at_ oky.at_ hab n5 hset (mem_tA.2 ⟨x, hxm, rfl⟩) (mem_tA.2 ⟨y, hym, rfl⟩) ?_ (by simp) oo1 oo2 oo3 oo4
    (memr (by intro z hz; simp at hz ⊢; grind) (lsA_in ({ y with t := x.t } :: m))) (memr (by intro z hz; simp [hz]) (hdA_in l2)) (memr (by intro z hz; simp [hz]) (lsA_in l1)) (memr (by intro z hz; simp at hz ⊢; grind) (hdA_in (m ++ [{ x with t := y.t }]))) ?_ rfl D⟩
  · intro z hz
    simp only [List.mem_append, List.mem_singleton] at hz
    rcases hz with (((hz | rfl) | hz) | rfl) | hz
    · exact h.ok z (by simp [hz])
    · exact ⟨okx.at_, okx.nz, oky.k, oky.R, oky.r, oky.d0, oky.d1⟩
    · exact h.ok z (by simp [hz])
    · exact ⟨oky.at_, oky.nz, okx.k, okx.R, okx.r, okx.d0, okx.d1⟩
    · exact h.ok z (by simp [hz])
  · have nls : lsA ({ y with t := x.t } :: m) 0 ≠ 0 := by
      intro e
      rcases List.eq_nil_or_concat m with rfl | ⟨m', w, rfl⟩
      · exact nx0 e
      · have : lsA ({ y with t := x.t } :: (m' ++ [w])) 0 = w.t := by
          show lsA (m' ++ [w]) x.t = _
          rw [lsA_app]
          rfl
        simp only [List.concat_eq_append] at e
        rw [this] at e
        exact (h.ok w (by simp)).nz e
    unfold swF4 swF3 swF2 swF1
    rw [oo1, oo2, oo3, oo4, tieF_ne nx0, tieF_ne ny0, tieF_ne nls]
    have ok1 : ∀ z, z ∈ l1 → NdOk t.M.size z := fun z hz => h.ok z (by simp [hz])
    have := tieF_hd (n := t.M.size) (l1 := l1) (l2 := [{ y with t := x.t }]) (f := t.f) ok1 fun e => by
      rw [h.f]
      cases l1 with
      | nil => exact absurd rfl e
      | cons _ _ => rfl
    have this : tieF t.f (lsA l1 0) x.t = hdA (l1 ++ [{ y with t := x.t }]) 0 := this
    rw [this]
    cases l1 <;> rfl
theorem swp_same {l1 l2 : List Nd} {x : Nd} : swpN (l1 ++ x :: l2) l1.length l1.length x.t x.t = l1 ++ x :: l2 := by
  have e : ∀ y : Nd, (l1 ++ x :: l2).set l1.length y = l1 ++ y :: l2 := fun y => by
    have := set_mid (l1 := l1) (l2 := l2) (g := x) (x := y) (n := l1.length) rfl
    simpa using this
  have e2 : ∀ y z : Nd, (l1 ++ z :: l2).set l1.length y = l1 ++ y :: l2 := fun y z => by
    have := set_mid (l1 := l1) (l2 := l2) (g := z) (x := y) (n := l1.length) rfl
    simpa using this
  unfold swpN
  have hb : Nat.beq l1.length l1.length = true := by simp
  rw [hb]
  simp only [cnd_t, gN_mid, e2]
theorem swp_two {l1 m l2 : List Nd} {x y : Nd} {a b : Int} : swpN (l1 ++ x :: (m ++ y :: l2)) l1.length (l1 ++ x :: m).length a b = (((l1 ++ [{ x with t := b }]) ++ m) ++ [{ y with t := a }]) ++ l2 := by
  have e2 : ∀ (l1 l2 : List Nd) (y z : Nd), (l1 ++ z :: l2).set l1.length y = l1 ++ y :: l2 := fun l1 l2 y z => by
    have := set_mid (l1 := l1) (l2 := l2) (g := z) (x := y) (n := l1.length) rfl
    simpa using this
  unfold swpN
  have hb : Nat.beq l1.length (l1 ++ x :: m).length = false := by
    cases hh : Nat.beq l1.length (l1 ++ x :: m).length with
    | false => rfl
    | true => have := Nat.eq_of_beq_eq_true hh; simp at this
  rw [hb]
  simp only [cnd_f, gN_mid, e2]
  have hl : (l1 ++ x :: m).length = (l1 ++ { x with t := b } :: m).length := by simp
  have hs : l1 ++ { x with t := b } :: (m ++ y :: l2) = (l1 ++ { x with t := b } :: m) ++ y :: l2 := by simp
  rw [hl, hs, gN_mid, e2]
  simp
theorem swp_two' {l1 m l2 : List Nd} {x y : Nd} {a b : Int} : swpN (l1 ++ y :: (m ++ x :: l2)) (l1 ++ y :: m).length l1.length a b = (((l1 ++ [{ y with t := a }]) ++ m) ++ [{ x with t := b }]) ++ l2 := by
  have e2 : ∀ (l1 l2 : List Nd) (y z : Nd), (l1 ++ z :: l2).set l1.length y = l1 ++ y :: l2 := fun l1 l2 y z => by
    have := set_mid (l1 := l1) (l2 := l2) (g := z) (x := y) (n := l1.length) rfl
    simpa using this
  unfold swpN
  have hb : Nat.beq (l1 ++ y :: m).length l1.length = false := by
    cases hh : Nat.beq (l1 ++ y :: m).length l1.length with
    | false => rfl
    | true => have := Nat.eq_of_beq_eq_true hh; simp at this
  rw [hb]
  simp only [cnd_f]
  have hs : l1 ++ y :: (m ++ x :: l2) = (l1 ++ y :: m) ++ x :: l2 := by simp
  rw [hs, gN_mid, e2]
  have hs2 : (l1 ++ y :: m) ++ { x with t := b } :: l2 = l1 ++ y :: (m ++ { x with t := b } :: l2) := by simp
  rw [hs2, gN_mid, e2]
  simp
theorem RepS.swap {t : TS} {l : List Nd} {σ : Int → Sl} (h : RepS t l σ) {a b : Int} (hua : U64 a) (hub : U64 b) :
    swE t a b = swR t.M.size l a b ∧ (∃ τ, RepS (swT t a b) (swL t.M.size l a b) τ) ∧ (swT t a b).M.size = t.M.size := by
  have e1 := h.hdE hua
  have e2 := h.hdE hub
  unfold swE swT swR swL
  rw [e1, e2]
  by_cases hz1 : hdT t.M.size l a = 0
  · have hb1 : (hdT t.M.size l a != 0) = false := by simp [hz1]
    simp only [hb1, mrgM_f, cnd_f]
    by_cases hz2 : hdT t.M.size l b = 0
    · have hb2 : (hdT t.M.size l b != 0) = false := by simp [hz2]
      simp only [hb2, cnd_f]
      obtain ⟨l1, lr, x, hl, hx, hfx, _, _, _, _⟩ := h.at_ hua hz1
      by_cases hab : a = b
      · have hbt : (a == b) = true := by simp [hab]
        simp only [hbt, mrgM_t, cnd_t]
        rw [← hab, hfx, hl]
        have := swp_same (l1 := l1) (l2 := lr) (x := x)
        rw [hx] at this
        refine ⟨by rw [hab, ← hl]; exact hz2, ⟨σ, ?_⟩, trivial⟩
        have hc : ((l1.length:Int)).toNat = l1.length := by simp
        rw [hc, this, ← hl]
        exact h
      · have hbf : (a == b) = false := by simp [hab]
        simp only [hbf, mrgM_f, cnd_f]
        obtain ⟨k1, kr, y, hk, hy, hfy, _, _, _, _⟩ := h.at_ hub hz2
        have hc : ∀ n : Nat, ((n:Int)).toNat = n := fun n => by simp
        rw [hfx, hfy, hc, hc]
        subst hx hy
        have hlk : l1 ++ x :: lr = k1 ++ y :: kr := hl.symm.trans hk
        rcases List.append_eq_append_iff.1 hlk with ⟨a', ha1, ha2⟩ | ⟨c', hc1, hc2⟩
        · cases a' with
          | nil =>
            simp at ha2
            exact absurd (by rw [ha2.1]) hab
          | cons z m =>
            simp at ha2
            obtain ⟨rfl, rfl⟩ := ha2
            subst hl
            rw [ha1, swp_two]
            have h' : RepS t ((((l1 ++ [x]) ++ m) ++ [y]) ++ kr) σ := by simpa using h
            obtain ⟨τ, R, z⟩ := RepS.sw1 h'
            exact ⟨trivial, ⟨τ, R⟩, z⟩
        · cases c' with
          | nil =>
            simp at hc2
            exact absurd (by rw [hc2.1]) hab
          | cons z m =>
            simp at hc2
            obtain ⟨rfl, rfl⟩ := hc2
            subst hk
            rw [hc1, swp_two']
            have h' : RepS t ((((k1 ++ [y]) ++ m) ++ [x]) ++ lr) σ := by simpa using h
            obtain ⟨τ, R, z⟩ := RepS.sw2 h'
            exact ⟨trivial, ⟨τ, R⟩, z⟩
    · have hb2 : (hdT t.M.size l b != 0) = true := by simp [hz2]
      simp only [hb2, mrgM_t, cnd_t]
      exact ⟨trivial, ⟨σ, h⟩, trivial⟩
  · have hb1 : (hdT t.M.size l a != 0) = true := by simp [hz1]
    simp only [hb1, mrgM_t, cnd_t]
    exact ⟨trivial, ⟨σ, h⟩, trivial⟩
end Go.Sx.M

namespace Go.Sx.M
open Go Go.Sx Go.Proofs Go.RowKit
noncomputable def chF (M : Mem) : Nat → Int → List Int
  | 0, _ => []
  | n + 1, a => if a = 0 then [] else a :: chF M n (ld M a).x
noncomputable def blF (M : Mem) (d:Int) : Nat → Int → List Int
  | 0, _ => []
  | n + 1, a => if a = 0 then [] else if hdE M a ≠ 0 ∨ (ld M a).d ≤ d then [] else a :: blF M d n (ld M a).x
noncomputable def blw (M : Mem) (c a:Int) : List Int := if hdE M a ≠ 0 then [] else blF M (ld M a).d (c + 1).toNat (ld M a).x
theorem chF_succ (M : Mem) (n:Nat) (a:Int) : chF M (n + 1) a = if a = 0 then [] else a :: chF M n (ld M a).x := rfl
theorem blF_succ (M : Mem) (d:Int) (n:Nat) (a:Int) : blF M d (n + 1) a = if a = 0 then [] else if hdE M a ≠ 0 ∨ (ld M a).d ≤ d then [] else a :: blF M d n (ld M a).x := rfl
theorem chF_stop {M : Mem} {n : Nat} {a : Int} (h : a = 0 ∨ n = 0) : chF M n a = [] := by
  cases n with
  | zero => rfl
  | succ n => rw [chF_succ, if_pos (h.resolve_right (by omega))]
theorem chF_on {M : Mem} {n m : Nat} {a : Int} (h : a ≠ 0) (hn : n = m + 1) : chF M n a = a :: chF M m (ld M a).x := by
  subst hn
  rw [chF_succ, if_neg h]
theorem blF_stop {M : Mem} {d : Int} {n : Nat} {a : Int} (h : a = 0 ∨ n = 0 ∨ (hdE M a ≠ 0 ∨ (ld M a).d ≤ d)) : blF M d n a = [] := by
  cases n with
  | zero => rfl
  | succ n =>
    rw [blF_succ]
    by_cases h0 : a = 0
    · rw [if_pos h0]
    · rw [if_neg h0, if_pos ((h.resolve_left h0).resolve_left (by omega))]
theorem blF_on {M : Mem} {d : Int} {n m : Nat} {a : Int} (h : a ≠ 0) (h2 : ¬ (hdE M a ≠ 0 ∨ (ld M a).d ≤ d)) (hn : n = m + 1) : blF M d n a = a :: blF M d m (ld M a).x := by
  subst hn
  rw [blF_succ, if_neg h, if_neg h2]
noncomputable def rmE (t : TS) (a:Int) : Int := hdE t.M a
noncomputable def rmT (t : TS) (a:Int) : TS :=
  ⟨mrgM (hdE t.M a != 0) t.M (tieM (stM ((blw t.M t.c a).foldl tD t.M) a sl0) (ld t.M a).p (ld t.M a).x), cnd (hdE t.M a != 0) t.f (tieF t.f (ld t.M a).p (ld t.M a).x), cnd (hdE t.M a != 0) t.c (IntKind.i64.wrap (t.c - 1))⟩
end Go.Sx.M

