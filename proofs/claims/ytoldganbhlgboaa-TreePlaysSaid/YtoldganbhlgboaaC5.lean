/- Contracts of the functions of this seat, each by the executor and the kernel; part 5. Their conditions stand in each. -/
import Derived.Test.YtoldganbhlgboaaC4
set_option linter.unusedVariables false
set_option linter.unusedSimpArgs false
set_option linter.unnecessarySimpa false
namespace Go.Sx.M
open Go Go.Sx Go.Proofs Go.RowKit
set_option maxRecDepth 100000
structure V62 where
  L : Nat
  K : Nat
  Q : Nat
  p : Nat → Int
  N : Nat
  q : Nat → Int
def A62 (v : V62) : List SV := [.slc 0 1 0 v.L, .slc 1 1 0 v.K]
def H62 (v : V62) : List (HO th.R) := [.row 22 1 v.Q (fun j => [.int .u64 (v.p j)]), .row 22 1 v.N (fun j => [.int .u64 (v.q j)])]
def toV62 (v : V62) : List (Vl th.R) := [.n v.L, .n v.K, .n v.Q, .c v.p, .n v.N, .c v.q]
def ofV62 : List (Vl th.R) → Option V62
  | [.n L, .n K, .n Q, .c p, .n N, .c q] => some ⟨L, K, Q, p, N, q⟩
  | _ => none
def d62 : Ft := ⟨[.slc0 0 1, .slc0 1 1], [.rowc 22 [.int .u64], .rowc 22 [.int .u64]]⟩
structure P62_0 where
  n0 : Nat
  n1 : Nat
  b4 : Bool
  x12 : Int
  N0 : Nat
  F0_0 : Nat → Int
  N1 : Nat
  F1_0 : Nat → Int
structure S62_0 where
  x13 : Int
noncomputable instance : Inhabited S62_0 := ⟨⟨0⟩⟩
def I62_0 (p : P62_0) (s : S62_0) : St th.R := ⟨[some (.slc 0 1 0 p.n0), some (.slc 1 1 0 p.n1), none, none, some (.bool p.b4), none, none, none, none, none, none, none, some (.int .i64 p.x12), some (.int .i64 s.x13), none, none, none, none, none, none, none, none, none, none, none, none], [.row 22 1 p.N0 (fun j => [.int .u64 (p.F0_0 j)]), .row 22 1 p.N1 (fun j => [.int .u64 (p.F1_0 j)])], [], []⟩
def d62_0 : Lp := ⟨⟨26, [(0, .slc0 0 1), (1, .slc0 1 1), (4, .bool), (12, .int .i64), (13, .int .i64)], [.rowc 22 [.int .u64], .rowc 22 [.int .u64]]⟩, [], 2, [], [4], []⟩
def toV62_0 (p : P62_0) (s : S62_0) : List (Vl th.R) := [.n p.n0, .n p.n1, .b p.b4, .i p.x12, .i s.x13, .n p.N0, .c p.F0_0, .n p.N1, .c p.F1_0]
def ofV62_0 : List (Vl th.R) → Option (P62_0 × S62_0)
  | [.n n0, .n n1, .b b4, .i x12, .i x13, .n N0, .c F0_0, .n N1, .c F1_0] => some (⟨n0, n1, b4, x12, N0, F0_0, N1, F1_0⟩, ⟨x13⟩)
  | _ => none
noncomputable def e62_0_6 (p : P62_0) (s : S62_0) : (Nat) := (0:Nat) + s.x13.toNat
noncomputable def e62_0_0 (p : P62_0) (s : S62_0) : (Bool) := cnd (decide (s.x13 < p.x12)) false true
noncomputable def e62_0_1 (p : P62_0) (s : S62_0) : (Prop) := (∀ (i:Nat), scpL (0:Nat) ((fun (j:Nat) => [SV.int IntKind.u64 (p.F0_0 j)]) i) = true) ∧ ∀ (i:Nat), scpL (0:Nat) ((fun (j:Nat) => [SV.int IntKind.u64 (p.F1_0 j)]) i) = true
noncomputable def e62_0_2 (p : P62_0) (s : S62_0) : (Prop) := (true = true → (0:Int) ≤ s.x13 ∧ s.x13 < (↑p.n0:Int)) ∧ (true = true → e62_0_6 p s < p.N0) ∧ (true = true → (0:Int) ≤ s.x13 ∧ s.x13 < (↑p.n1:Int)) ∧ (true = true → e62_0_6 p s < p.N1)
noncomputable def e62_0_3 (p : P62_0) (s : S62_0) : (Bool) := p.F0_0 (e62_0_6 p s) != p.F1_0 (e62_0_6 p s)
noncomputable def e62_0_4 (p : P62_0) (s : S62_0) : (Prop) := ((∀ (i:Nat), scpL (0:Nat) ((fun (j:Nat) => [SV.int IntKind.u64 (p.F0_0 j)]) i) = true) ∧ ∀ (i:Nat), scpL (0:Nat) ((fun (j:Nat) => [SV.int IntKind.u64 (p.F1_0 j)]) i) = true) ∧ (∀ (i:Nat), i < p.N0 → (fun (j:Nat) => [SV.int IntKind.u64 (p.F0_0 j)]) i = elC (fun (j:Nat) => [SV.int IntKind.u64 (p.F0_0 j)]) (0:Nat) [Ck.int IntKind.u64] i) ∧ ∀ (i:Nat), i < p.N1 → (fun (j:Nat) => [SV.int IntKind.u64 (p.F1_0 j)]) i = elC (fun (j:Nat) => [SV.int IntKind.u64 (p.F1_0 j)]) (0:Nat) [Ck.int IntKind.u64] i
noncomputable def e62_0_5 (p : P62_0) (s : S62_0) : (Int) := IntKind.i64.wrap (s.x13 + (1:Int))
theorem n_e62_0_1 (p : P62_0) (s : S62_0) : e62_0_1 p s := by
  unfold e62_0_1
  (repeat' first | intro _ | apply And.intro) <;> first | rfl | exact absurd (by assumption) (Nat.not_lt_zero _) | omega | decide
theorem n_e62_0_4 (p : P62_0) (s : S62_0) : e62_0_4 p s := by
  unfold e62_0_4
  (repeat' first | intro _ | apply And.intro) <;> first | rfl | exact absurd (by assumption) (Nat.not_lt_zero _) | omega | decide
noncomputable def rf62_0 (p : P62_0) (s : S62_0) : Tr (Rs th.R S62_0) := (Tr.ite (e62_0_0 p s) (Tr.need (e62_0_1 p s) (Tr.leaf (Rs.out (Ex.exit (0:Nat)) [none, none, none, none, some (SV.bool (p.b4)), none, none, none, none, none, none, none, none, none, none, none, none, none, none, none, none, none, none, none, none, none] [(HO.row (22:Nat) (1:Nat) (p.N0) (fun j => [SV.int .u64 (p.F0_0 j)])), (HO.row (22:Nat) (1:Nat) (p.N1) (fun j => [SV.int .u64 (p.F1_0 j)]))]))) (Tr.need (e62_0_2 p s) (Tr.ite (e62_0_3 p s) (Tr.need (e62_0_1 p s) (Tr.leaf (Rs.out (Ex.ret) [none, none, none, none, some (SV.bool (false)), none, none, none, none, none, none, none, none, none, none, none, none, none, none, none, none, none, none, none, none, none] [(HO.row (22:Nat) (1:Nat) (p.N0) (fun j => [SV.int .u64 (p.F0_0 j)])), (HO.row (22:Nat) (1:Nat) (p.N1) (fun j => [SV.int .u64 (p.F1_0 j)]))]))) (Tr.need (e62_0_4 p s) (Tr.leaf (Rs.on (S62_0.mk ((e62_0_5 p s)))))))))
noncomputable def r62_0 (p : P62_0) (s : S62_0) : Tr (Rs th.R S62_0) := (Tr.ite (e62_0_0 p s) (Tr.leaf (Rs.out (Ex.exit (0:Nat)) [none, none, none, none, some (SV.bool (p.b4)), none, none, none, none, none, none, none, none, none, none, none, none, none, none, none, none, none, none, none, none, none] [(HO.row (22:Nat) (1:Nat) (p.N0) (fun j => [SV.int .u64 (p.F0_0 j)])), (HO.row (22:Nat) (1:Nat) (p.N1) (fun j => [SV.int .u64 (p.F1_0 j)]))])) (Tr.need (e62_0_2 p s) (Tr.ite (e62_0_3 p s) (Tr.leaf (Rs.out (Ex.ret) [none, none, none, none, some (SV.bool (false)), none, none, none, none, none, none, none, none, none, none, none, none, none, none, none, none, none, none, none, none, none] [(HO.row (22:Nat) (1:Nat) (p.N0) (fun j => [SV.int .u64 (p.F0_0 j)])), (HO.row (22:Nat) (1:Nat) (p.N1) (fun j => [SV.int .u64 (p.F1_0 j)]))])) (Tr.leaf (Rs.on (S62_0.mk ((e62_0_5 p s))))))))
noncomputable def E62_0 : St th.R → Out th := evCode th Try.prog (auto th Try.prog nice53n [] 20) (autoH [] [] [] [] : Hints th) (lpAt Try.prog 62 0)
theorem B62_0 : CodeSound th Try.prog (lpAt Try.prog 62 0) E62_0 := evCode_sound (T := th) (P := Try.prog) (tbl := (auto th Try.prog nice53n [] 20)) (auto_sound (nice := nice53n) (us := []) nok53n 20) (autoH [] [] [] [] : Hints th) _ (LoopsOk_mem (fun _ => rfl) _ fun b hb L hL => by cases hL)
noncomputable def L62_0 : St th.R → Out th := loopL d62_0 ofV62_0 r62_0
theorem h1_62_0 (p : P62_0) (s : S62_0) : bld d62_0.tm (toV62_0 p s) = some (I62_0 p s) := by kernel_rfl
theorem h2_62_0 (l : List (Vl th.R)) (p : P62_0) (s : S62_0) (h : ofV62_0 l = some (p, s)) : l = toV62_0 p s := by
  unfold ofV62_0 at h
  split at h
  · cases h; rfl
  · cases h
theorem h3_62_0 (p : P62_0) (s : S62_0) : cvE d62_0 (E62_0 (I62_0 p s)) = some ((rf62_0 p s).map (Rs.map (toV62_0 p))) := by kernel_rfl
theorem h3g_62_0 (p : P62_0) (s : S62_0) : (rf62_0 p s).get = (r62_0 p s).get := by kernel_rfl
theorem h4_62_0 (p : P62_0) (s s1 : S62_0) : outH d62_0.dirt d62_0.n0 (r62_0 p s) = repH (maskH d62_0.dirt 0 d62_0.n0 (I62_0 p s1).heap) (r62_0 p s) := by kernel_rfl
theorem ls62_0 : CodeSound th Try.prog (.loop (lpAt Try.prog 62 0)) L62_0 := loopL_sound B62_0 d62_0 I62_0 toV62_0 (by kernel_rfl) h1_62_0 h2_62_0
  (fun p s => ⟨(rf62_0 p s).map (Rs.map (toV62_0 p)), h3_62_0 p s, fun h => by
    rw [Tr.map_ok]
    unfold r62_0 at h; unfold rf62_0
    simp only [Tr.ok, n_e62_0_1, n_e62_0_4, true_and, and_true, forall_const, implies_true] at h ⊢
    try exact h, by rw [Tr.map_get, h3g_62_0 p s]⟩) h4_62_0
theorem ok62 : LoopsOk th Try.prog (autoH [(4, L62_0)] [] [] [] : Hints th) (bodyOf Try.prog 62) := autoH_ok (bs := [lpAt Try.prog 62 0]) (by kernel_rfl) fun b hb L hL => by
  simp only [List.mem_cons, List.not_mem_nil, or_false] at hb
  rcases hb with rfl
  · have e : lookL [(4, L62_0)] (firstReg (lpAt Try.prog 62 0)) = some L62_0 := by kernel_rfl
    rw [e] at hL; cases hL
    exact ls62_0
noncomputable def f62_3 (v : V62) : (Bool) := (↑v.L:Int) != (↑v.K:Int)
noncomputable def f62_4 (v : V62) : (P62_0) := P62_0.mk v.L v.K false (↑v.L:Int) v.Q v.p v.N v.q
noncomputable def f62_0 (v : V62) : (Prop) := f62_3 v = false → (∀ (i:Nat), i < v.Q → (fun (j:Nat) => [SV.int IntKind.u64 (v.p j)]) i = elC (fun (j:Nat) => [SV.int IntKind.u64 (v.p j)]) (0:Nat) [Ck.int IntKind.u64] i) ∧ ∀ (i:Nat), i < v.N → (fun (j:Nat) => [SV.int IntKind.u64 (v.q j)]) i = elC (fun (j:Nat) => [SV.int IntKind.u64 (v.q j)]) (0:Nat) [Ck.int IntKind.u64] i
noncomputable def f62_1 (v : V62) : (Prop) := f62_3 v = false → LT (r62_0 (f62_4 v)) (S62_0.mk (0:Int))
noncomputable def f62z0 (v : V62) : S62_0 := lastS (r62_0 (f62_4 v)) (S62_0.mk (0:Int))
noncomputable def f62_2 (v : V62) : (Bool) := cnd (f62_3 v) false (cnd (cnd (e62_0_0 (f62_4 v) (f62z0 v)) false true) false true)
theorem n_f62_0 (v : V62) : f62_0 v := by
  unfold f62_0
  (repeat' first | intro _ | apply And.intro) <;> first | rfl | exact absurd (by assumption) (Nat.not_lt_zero _) | omega | decide
noncomputable def ff62 (v : V62) : Tr (Fin th.R) := (Tr.need (f62_0 v) (Tr.need (f62_1 v) (Tr.leaf (SV.bool (f62_2 v), [(HO.row (22:Nat) (1:Nat) (v.Q) (fun j => [SV.int .u64 (v.p j)])), (HO.row (22:Nat) (1:Nat) (v.N) (fun j => [SV.int .u64 (v.q j)]))], List.nil))))
noncomputable def f62 (v : V62) : Tr (Fin th.R) := (Tr.need (f62_1 v) (Tr.leaf (SV.bool (f62_2 v), [(HO.row (22:Nat) (1:Nat) (v.Q) (fun j => [SV.int .u64 (v.p j)])), (HO.row (22:Nat) (1:Nat) (v.N) (fun j => [SV.int .u64 (v.q j)]))], [])))
noncomputable def C62 : CF th.R := fnC d62 ofV62 (f62 )
theorem q62 (v : V62) : (evFn th Try.prog (auto th Try.prog nice53n [] 20) (autoH [(4, L62_0)] [] [] [] : Hints th) 62) (A62 v) (H62 v) = some (ff62 v) := by kernel_rfl
theorem qg62 (v : V62) : ((ff62 v).map (setD [])).get = (f62 v).get := by kernel_rfl
theorem qd62 (v : V62) : allD 2 [] (ff62 v) = true := by kernel_rfl
theorem s62 : Sound Try.prog th 62 (C62 ) := fnC_sound (evFn_sound' (T := th) (P := Try.prog) (tbl := (auto th Try.prog nice53n [] 20)) (auto_sound (nice := nice53n) (us := []) nok53n 20) (H := (autoH [(4, L62_0)] [] [] [] : Hints th)) (k := 62) (fnLoops ok62)) d62 A62 H62 toV62 (by kernel_rfl) (fun v => by kernel_rfl)
  (fun l v h => by
    unfold ofV62 at h
    split at h
    · cases h; rfl
    · cases h)
  [] (fun v => ⟨ff62 v, q62 v, fun h => by
    unfold f62 at h; unfold ff62
    simp only [Tr.ok, n_f62_0, true_and, and_true, forall_const, implies_true] at h ⊢
    try exact h, qg62 v, qd62 v⟩)
theorem qdd62 (v : V62) : (f62 v).get.2.2 = [] := by
  rw [← qg62, Tr.map_get]; rfl
set_option maxRecDepth 100000
structure V65 where
  z : Int
  L : Nat
  f : Int
  c : Int
  Q : Nat
  t : Nat → Int
  k : Nat → Int
  a : Nat → Int
  b : Nat → Int
  r : Nat → Int
  g : Nat → Int
  s : Nat → Int
  m : Nat → Int
  d : Nat → Int
  M : th.R
def A65 (v : V65) : List SV := [.ptr 0 0, .agg [.int .u64 v.z, .slc 1 9 0 v.L]]
def H65 (v : V65) : List (HO th.R) := [.cells 175 [.ptr 2 0, .int .u64 v.f, .int .i64 v.c], .row 100 9 v.Q (rw9 v.t v.k v.a v.b v.r v.g v.s v.m v.d), .res v.M]
def toV65 (v : V65) : List (Vl th.R) := [.i v.z, .n v.L, .i v.f, .i v.c, .n v.Q, .c v.t, .c v.k, .c v.a, .c v.b, .c v.r, .c v.g, .c v.s, .c v.m, .c v.d, .r v.M]
def ofV65 : List (Vl th.R) → Option V65
  | [.i z, .n L, .i f, .i c, .n Q, .c t, .c k, .c a, .c b, .c r, .c g, .c s, .c m, .c d, .r M] => some ⟨z, L, f, c, Q, t, k, a, b, r, g, s, m, d, M⟩
  | _ => none
def d65 : Ft := ⟨[.ptr 0 0, .agg [.int .u64, .slc0 1 9]], [.cells 175 [.ptr 2 0, .int .u64, .int .i64], .rowc 100 [.int .u64, .int .i64, .int .u64, .int .i64, .int .i64, .int .i64, .int .i64, .int .u64, .int .i64], .res]⟩
structure P65_0 where
  b4 : Bool
  n5 : Nat
  n26 : Nat
  x27 : Int
  xh0_1 : Int
  xh0_2 : Int
  N1 : Nat
  F1_0 : Nat → Int
  F1_1 : Nat → Int
  F1_2 : Nat → Int
  F1_3 : Nat → Int
  F1_4 : Nat → Int
  F1_5 : Nat → Int
  F1_6 : Nat → Int
  F1_7 : Nat → Int
  F1_8 : Nat → Int
  R2 : th.R
  xh3_0 : Int
  nh3_1 : Nat
  N4 : Nat
  F4_0 : Nat → Int
structure S65_0 where
  x28 : Int
noncomputable instance : Inhabited S65_0 := ⟨⟨0⟩⟩
def I65_0 (p : P65_0) (s : S65_0) : St th.R := ⟨[some (.ptr 0 0), none, none, none, some (.bool p.b4), some (.slc 4 1 0 p.n5), none, none, none, none, none, none, none, none, none, none, none, none, none, none, none, none, none, none, none, none, some (.slc 1 9 0 p.n26), some (.int .i64 p.x27), some (.int .i64 s.x28), none, none, none, none, none, none, none, none, none, none, none, none, none, none, none, none, none, none, none, none, none, none, none, none, none, none, none, none, none, none, none, none, none, none, none, none, none, none], [.cells 175 [.ptr 2 0, .int .u64 p.xh0_1, .int .i64 p.xh0_2], .row 100 9 p.N1 (rw9 p.F1_0 p.F1_1 p.F1_2 p.F1_3 p.F1_4 p.F1_5 p.F1_6 p.F1_7 p.F1_8), .res p.R2, .cells 55 [.int .u64 p.xh3_0, .slc 1 9 0 p.nh3_1], .row 22 1 p.N4 (fun j => [.int .u64 (p.F4_0 j)])], [], []⟩
def d65_0 : Lp := ⟨⟨67, [(0, .ptr 0 0), (4, .bool), (5, .slc0 4 1), (26, .slc0 1 9), (27, .int .i64), (28, .int .i64)], [.cells 175 [.ptr 2 0, .int .u64, .int .i64], .rowc 100 [.int .u64, .int .i64, .int .u64, .int .i64, .int .i64, .int .i64, .int .i64, .int .u64, .int .i64], .res, .cells 55 [.int .u64, .slc0 1 9], .rowc 22 [.int .u64]]⟩, [], 5, [], [4], []⟩
def toV65_0 (p : P65_0) (s : S65_0) : List (Vl th.R) := [.b p.b4, .n p.n5, .n p.n26, .i p.x27, .i s.x28, .i p.xh0_1, .i p.xh0_2, .n p.N1, .c p.F1_0, .c p.F1_1, .c p.F1_2, .c p.F1_3, .c p.F1_4, .c p.F1_5, .c p.F1_6, .c p.F1_7, .c p.F1_8, .r p.R2, .i p.xh3_0, .n p.nh3_1, .n p.N4, .c p.F4_0]
def ofV65_0 : List (Vl th.R) → Option (P65_0 × S65_0)
  | [.b b4, .n n5, .n n26, .i x27, .i x28, .i xh0_1, .i xh0_2, .n N1, .c F1_0, .c F1_1, .c F1_2, .c F1_3, .c F1_4, .c F1_5, .c F1_6, .c F1_7, .c F1_8, .r R2, .i xh3_0, .n nh3_1, .n N4, .c F4_0] => some (⟨b4, n5, n26, x27, xh0_1, xh0_2, N1, F1_0, F1_1, F1_2, F1_3, F1_4, F1_5, F1_6, F1_7, F1_8, R2, xh3_0, nh3_1, N4, F4_0⟩, ⟨x28⟩)
  | _ => none
noncomputable def e65_0_9 (p : P65_0) (s : S65_0) : (Nat) := (0:Nat) + s.x28.toNat
noncomputable def e65_0_10 (p : P65_0) (s : S65_0) : (Int) := p.F1_0 (e65_0_9 p s)
noncomputable def e65_0_11 (p : P65_0) (s : S65_0) : (Sl) := ld p.R2 (e65_0_10 p s)
noncomputable def e65_0_12 (p : P65_0) (s : S65_0) : (Bool) := cnd (cnd (p.F4_0 (e65_0_9 p s) != e65_0_10 p s) true (ldE p.R2 (e65_0_10 p s) != (0:Int))) true !((e65_0_11 p s).k == p.F1_1 (e65_0_9 p s) && ((e65_0_11 p s).a == p.F1_2 (e65_0_9 p s) && ((e65_0_11 p s).b == p.F1_3 (e65_0_9 p s) && ((e65_0_11 p s).r == p.F1_4 (e65_0_9 p s) && ((e65_0_11 p s).g == p.F1_5 (e65_0_9 p s) && ((e65_0_11 p s).s == p.F1_6 (e65_0_9 p s) && ((e65_0_11 p s).m == p.F1_7 (e65_0_9 p s) && true)))))))
noncomputable def e65_0_0 (p : P65_0) (s : S65_0) : (Bool) := cnd (decide (s.x28 < p.x27)) false true
noncomputable def e65_0_1 (p : P65_0) (s : S65_0) : (Prop) := (∀ (i:Nat), scpL (0:Nat) ((rw9 p.F1_0 p.F1_1 p.F1_2 p.F1_3 p.F1_4 p.F1_5 p.F1_6 p.F1_7 p.F1_8) i) = true) ∧ ∀ (i:Nat), scpL (0:Nat) ((fun (j:Nat) => [SV.int IntKind.u64 (p.F4_0 j)]) i) = true
noncomputable def e65_0_2 (p : P65_0) (s : S65_0) : (Prop) := (0:Int) ≤ s.x28 ∧ s.x28 < (↑p.n26:Int)
noncomputable def e65_0_3 (p : P65_0) (s : S65_0) : (Prop) := e65_0_9 p s < p.N1
noncomputable def e65_0_4 (p : P65_0) (s : S65_0) : (Prop) := pre67 (V67.mk (e65_0_10 p s) p.xh0_1 p.xh0_2 p.R2)
noncomputable def e65_0_5 (p : P65_0) (s : S65_0) : (Prop) := (true = true → (0:Int) ≤ s.x28 ∧ s.x28 < (↑p.n5:Int)) ∧ (true = true → e65_0_9 p s < p.N4) ∧ (cnd (!e65_0_12 p s) true false = true → pre59 (V59.mk (e65_0_10 p s) p.xh0_1 p.xh0_2 p.R2))
noncomputable def e65_0_6 (p : P65_0) (s : S65_0) : (Bool) := cnd (e65_0_12 p s) true (dpE p.R2 (e65_0_10 p s) != p.F1_8 (e65_0_9 p s))
noncomputable def e65_0_7 (p : P65_0) (s : S65_0) : (Prop) := ((∀ (i:Nat), scpL (0:Nat) ((rw9 p.F1_0 p.F1_1 p.F1_2 p.F1_3 p.F1_4 p.F1_5 p.F1_6 p.F1_7 p.F1_8) i) = true) ∧ ∀ (i:Nat), scpL (0:Nat) ((fun (j:Nat) => [SV.int IntKind.u64 (p.F4_0 j)]) i) = true) ∧ (∀ (i:Nat), i < p.N1 → (rw9 p.F1_0 p.F1_1 p.F1_2 p.F1_3 p.F1_4 p.F1_5 p.F1_6 p.F1_7 p.F1_8) i = elC (rw9 p.F1_0 p.F1_1 p.F1_2 p.F1_3 p.F1_4 p.F1_5 p.F1_6 p.F1_7 p.F1_8) (0:Nat) ck9 i) ∧ ∀ (i:Nat), i < p.N4 → (fun (j:Nat) => [SV.int IntKind.u64 (p.F4_0 j)]) i = elC (fun (j:Nat) => [SV.int IntKind.u64 (p.F4_0 j)]) (0:Nat) [Ck.int IntKind.u64] i
noncomputable def e65_0_8 (p : P65_0) (s : S65_0) : (Int) := IntKind.i64.wrap (s.x28 + (1:Int))
theorem n_e65_0_1 (p : P65_0) (s : S65_0) : e65_0_1 p s := by
  unfold e65_0_1
  (repeat' first | intro _ | apply And.intro) <;> first | rfl | exact absurd (by assumption) (Nat.not_lt_zero _) | omega | decide
theorem n_e65_0_7 (p : P65_0) (s : S65_0) : e65_0_7 p s := by
  unfold e65_0_7
  (repeat' first | intro _ | apply And.intro) <;> first | rfl | exact absurd (by assumption) (Nat.not_lt_zero _) | omega | decide
noncomputable def rf65_0 (p : P65_0) (s : S65_0) : Tr (Rs th.R S65_0) := (Tr.ite (e65_0_0 p s) (Tr.need (e65_0_1 p s) (Tr.leaf (Rs.out (Ex.exit (0:Nat)) [none, none, none, none, some (SV.bool (p.b4)), none, none, none, none, none, none, none, none, none, none, none, none, none, none, none, none, none, none, none, none, none, none, none, none, none, none, none, none, none, none, none, none, none, none, none, none, none, none, none, none, none, none, none, none, none, none, none, none, none, none, none, none, none, none, none, none, none, none, none, none, none, none] [(HO.cells (175:Nat) [(SV.ptr (2:Nat) (0:Nat)), SV.int .u64 (p.xh0_1), SV.int .i64 (p.xh0_2)]), (HO.row (100:Nat) (9:Nat) (p.N1) (rw9 p.F1_0 p.F1_1 p.F1_2 p.F1_3 p.F1_4 p.F1_5 p.F1_6 p.F1_7 p.F1_8)), HO.res (p.R2), (HO.cells (55:Nat) [SV.int .u64 (p.xh3_0), (SV.slc (1:Nat) (9:Nat) (0:Nat) (p.nh3_1))]), (HO.row (22:Nat) (1:Nat) (p.N4) (fun j => [SV.int .u64 (p.F4_0 j)]))]))) (Tr.need (e65_0_2 p s) (Tr.need (e65_0_3 p s) (Tr.need (e65_0_4 p s) (Tr.need (e65_0_5 p s) (Tr.ite (e65_0_6 p s) (Tr.need (e65_0_1 p s) (Tr.leaf (Rs.out (Ex.ret) [none, none, none, none, some (SV.bool (false)), none, none, none, none, none, none, none, none, none, none, none, none, none, none, none, none, none, none, none, none, none, none, none, none, none, none, none, none, none, none, none, none, none, none, none, none, none, none, none, none, none, none, none, none, none, none, none, none, none, none, none, none, none, none, none, none, none, none, none, none, none, none] [(HO.cells (175:Nat) [(SV.ptr (2:Nat) (0:Nat)), SV.int .u64 (p.xh0_1), SV.int .i64 (p.xh0_2)]), (HO.row (100:Nat) (9:Nat) (p.N1) (rw9 p.F1_0 p.F1_1 p.F1_2 p.F1_3 p.F1_4 p.F1_5 p.F1_6 p.F1_7 p.F1_8)), HO.res (p.R2), (HO.cells (55:Nat) [SV.int .u64 (p.xh3_0), (SV.slc (1:Nat) (9:Nat) (0:Nat) (p.nh3_1))]), (HO.row (22:Nat) (1:Nat) (p.N4) (fun j => [SV.int .u64 (p.F4_0 j)]))]))) (Tr.need (e65_0_7 p s) (Tr.leaf (Rs.on (S65_0.mk ((e65_0_8 p s))))))))))))
noncomputable def r65_0 (p : P65_0) (s : S65_0) : Tr (Rs th.R S65_0) := (Tr.ite (e65_0_0 p s) (Tr.leaf (Rs.out (Ex.exit (0:Nat)) [none, none, none, none, some (SV.bool (p.b4)), none, none, none, none, none, none, none, none, none, none, none, none, none, none, none, none, none, none, none, none, none, none, none, none, none, none, none, none, none, none, none, none, none, none, none, none, none, none, none, none, none, none, none, none, none, none, none, none, none, none, none, none, none, none, none, none, none, none, none, none, none, none] [(HO.cells (175:Nat) [(SV.ptr (2:Nat) (0:Nat)), SV.int .u64 (p.xh0_1), SV.int .i64 (p.xh0_2)]), (HO.row (100:Nat) (9:Nat) (p.N1) (rw9 p.F1_0 p.F1_1 p.F1_2 p.F1_3 p.F1_4 p.F1_5 p.F1_6 p.F1_7 p.F1_8)), HO.res (p.R2), (HO.cells (55:Nat) [SV.int .u64 (p.xh3_0), (SV.slc (1:Nat) (9:Nat) (0:Nat) (p.nh3_1))]), (HO.row (22:Nat) (1:Nat) (p.N4) (fun j => [SV.int .u64 (p.F4_0 j)]))])) (Tr.need (e65_0_2 p s) (Tr.need (e65_0_3 p s) (Tr.need (e65_0_4 p s) (Tr.need (e65_0_5 p s) (Tr.ite (e65_0_6 p s) (Tr.leaf (Rs.out (Ex.ret) [none, none, none, none, some (SV.bool (false)), none, none, none, none, none, none, none, none, none, none, none, none, none, none, none, none, none, none, none, none, none, none, none, none, none, none, none, none, none, none, none, none, none, none, none, none, none, none, none, none, none, none, none, none, none, none, none, none, none, none, none, none, none, none, none, none, none, none, none, none, none, none] [(HO.cells (175:Nat) [(SV.ptr (2:Nat) (0:Nat)), SV.int .u64 (p.xh0_1), SV.int .i64 (p.xh0_2)]), (HO.row (100:Nat) (9:Nat) (p.N1) (rw9 p.F1_0 p.F1_1 p.F1_2 p.F1_3 p.F1_4 p.F1_5 p.F1_6 p.F1_7 p.F1_8)), HO.res (p.R2), (HO.cells (55:Nat) [SV.int .u64 (p.xh3_0), (SV.slc (1:Nat) (9:Nat) (0:Nat) (p.nh3_1))]), (HO.row (22:Nat) (1:Nat) (p.N4) (fun j => [SV.int .u64 (p.F4_0 j)]))])) (Tr.leaf (Rs.on (S65_0.mk ((e65_0_8 p s)))))))))))
noncomputable def E65_0 : St th.R → Out th := evCode th Try.prog (auto th Try.prog nice53n [] 20) (autoH [] [] [] [] : Hints th) (lpAt Try.prog 65 0)
theorem B65_0 : CodeSound th Try.prog (lpAt Try.prog 65 0) E65_0 := evCode_sound (T := th) (P := Try.prog) (tbl := (auto th Try.prog nice53n [] 20)) (auto_sound (nice := nice53n) (us := []) nok53n 20) (autoH [] [] [] [] : Hints th) _ (LoopsOk_mem (fun _ => rfl) _ fun b hb L hL => by cases hL)
noncomputable def L65_0 : St th.R → Out th := loopL d65_0 ofV65_0 r65_0
theorem h1_65_0 (p : P65_0) (s : S65_0) : bld d65_0.tm (toV65_0 p s) = some (I65_0 p s) := by kernel_rfl
theorem h2_65_0 (l : List (Vl th.R)) (p : P65_0) (s : S65_0) (h : ofV65_0 l = some (p, s)) : l = toV65_0 p s := by
  unfold ofV65_0 at h
  split at h
  · cases h; rfl
  · cases h
theorem h3_65_0 (p : P65_0) (s : S65_0) : cvE d65_0 (E65_0 (I65_0 p s)) = some ((rf65_0 p s).map (Rs.map (toV65_0 p))) := by kernel_rfl
theorem h3g_65_0 (p : P65_0) (s : S65_0) : (rf65_0 p s).get = (r65_0 p s).get := by kernel_rfl
theorem h4_65_0 (p : P65_0) (s s1 : S65_0) : outH d65_0.dirt d65_0.n0 (r65_0 p s) = repH (maskH d65_0.dirt 0 d65_0.n0 (I65_0 p s1).heap) (r65_0 p s) := by kernel_rfl
theorem ls65_0 : CodeSound th Try.prog (.loop (lpAt Try.prog 65 0)) L65_0 := loopL_sound B65_0 d65_0 I65_0 toV65_0 (by kernel_rfl) h1_65_0 h2_65_0
  (fun p s => ⟨(rf65_0 p s).map (Rs.map (toV65_0 p)), h3_65_0 p s, fun h => by
    rw [Tr.map_ok]
    unfold r65_0 at h; unfold rf65_0
    simp only [Tr.ok, n_e65_0_1, n_e65_0_7, true_and, and_true, forall_const, implies_true] at h ⊢
    try exact h, by rw [Tr.map_get, h3g_65_0 p s]⟩) h4_65_0
theorem ok65 : LoopsOk th Try.prog (autoH [(5, L65_0)] [] [] [] : Hints th) (bodyOf Try.prog 65) := autoH_ok (bs := [lpAt Try.prog 65 0]) (by kernel_rfl) fun b hb L hL => by
  simp only [List.mem_cons, List.not_mem_nil, or_false] at hb
  rcases hb with rfl
  · have e : lookL [(5, L65_0)] (firstReg (lpAt Try.prog 65 0)) = some L65_0 := by kernel_rfl
    rw [e] at hL; cases hL
    exact ls65_0
noncomputable def f65_5 (v : V65) : (Int) := (↑(chF v.M v.c.toNat v.f).length:Int)
noncomputable def f65_6 (v : V65) : (Bool) := cnd (f65_5 v != (↑v.L:Int)) true (v.c != f65_5 v)
noncomputable def f65_7 (v : V65) : (P65_0) := P65_0.mk false (chF v.M v.c.toNat v.f).length v.L (↑v.L:Int) v.f v.c v.Q v.t v.k v.a v.b v.r v.g v.s v.m v.d v.M v.z v.L (chF v.M v.c.toNat v.f).length fun (j:Nat) => (chF v.M v.c.toNat v.f).getD j (0:Int)
noncomputable def f65_0 (v : V65) : (Prop) := pre75 (V75.mk v.f v.c v.M)
noncomputable def f65_1 (v : V65) : (Prop) := ∀ (i:Nat), scpL (0:Nat) ((fun (j:Nat) => [SV.int IntKind.u64 ((chF v.M v.c.toNat v.f).getD j (0:Int))]) i) = true
noncomputable def f65_2 (v : V65) : (Prop) := f65_6 v = false → (∀ (i:Nat), i < v.Q → (rw9 v.t v.k v.a v.b v.r v.g v.s v.m v.d) i = elC (rw9 v.t v.k v.a v.b v.r v.g v.s v.m v.d) (0:Nat) ck9 i) ∧ ∀ (i:Nat), i < (chF v.M v.c.toNat v.f).length → (fun (j:Nat) => [SV.int IntKind.u64 ((chF v.M v.c.toNat v.f).getD j (0:Int))]) i = elC (fun (j:Nat) => [SV.int IntKind.u64 ((chF v.M v.c.toNat v.f).getD j (0:Int))]) (0:Nat) [Ck.int IntKind.u64] i
noncomputable def f65_3 (v : V65) : (Prop) := f65_6 v = false → LT (r65_0 (f65_7 v)) (S65_0.mk (0:Int))
noncomputable def f65z0 (v : V65) : S65_0 := lastS (r65_0 (f65_7 v)) (S65_0.mk (0:Int))
noncomputable def f65_4 (v : V65) : (Bool) := cnd (f65_6 v) false (cnd (cnd (e65_0_0 (f65_7 v) (f65z0 v)) false true) false true)
theorem n_f65_1 (v : V65) : f65_1 v := by
  unfold f65_1
  (repeat' first | intro _ | apply And.intro) <;> first | rfl | exact absurd (by assumption) (Nat.not_lt_zero _) | omega | decide
theorem n_f65_2 (v : V65) : f65_2 v := by
  unfold f65_2
  (repeat' first | intro _ | apply And.intro) <;> first | rfl | exact absurd (by assumption) (Nat.not_lt_zero _) | omega | decide
noncomputable def ff65 (v : V65) : Tr (Fin th.R) := (Tr.need (f65_0 v) (Tr.need (f65_1 v) (Tr.need (f65_2 v) (Tr.need (f65_3 v) (Tr.leaf (SV.bool (f65_4 v), [(HO.cells (175:Nat) [(SV.ptr (2:Nat) (0:Nat)), SV.int .u64 (v.f), SV.int .i64 (v.c)]), (HO.row (100:Nat) (9:Nat) (v.Q) (rw9 v.t v.k v.a v.b v.r v.g v.s v.m v.d)), HO.res (v.M)], List.nil))))))
noncomputable def f65 (v : V65) : Tr (Fin th.R) := (Tr.need (f65_0 v) (Tr.need (f65_3 v) (Tr.leaf (SV.bool (f65_4 v), [(HO.cells (175:Nat) [(SV.ptr (2:Nat) (0:Nat)), SV.int .u64 (v.f), SV.int .i64 (v.c)]), (HO.row (100:Nat) (9:Nat) (v.Q) (fun j => [SV.int .u64 (v.t j), SV.int .i64 (v.k j), SV.int .u64 (v.a j), SV.int .i64 (v.b j), SV.int .i64 (v.r j), SV.int .i64 (v.g j), SV.int .i64 (v.s j), SV.int .u64 (v.m j), SV.int .i64 (v.d j)])), HO.res (v.M)], []))))
noncomputable def C65 : CF th.R := fnC d65 ofV65 (f65 )
theorem q65 (v : V65) : (evFn th Try.prog (auto th Try.prog nice53n [] 20) (autoH [(5, L65_0)] [] [] [] : Hints th) 65) (A65 v) (H65 v) = some (ff65 v) := by kernel_rfl
theorem qg65 (v : V65) : ((ff65 v).map (setD [])).get = (f65 v).get := by kernel_rfl
theorem qd65 (v : V65) : allD 3 [] (ff65 v) = true := by kernel_rfl
theorem s65 : Sound Try.prog th 65 (C65 ) := fnC_sound (evFn_sound' (T := th) (P := Try.prog) (tbl := (auto th Try.prog nice53n [] 20)) (auto_sound (nice := nice53n) (us := []) nok53n 20) (H := (autoH [(5, L65_0)] [] [] [] : Hints th)) (k := 65) (fnLoops ok65)) d65 A65 H65 toV65 (by kernel_rfl) (fun v => by kernel_rfl)
  (fun l v h => by
    unfold ofV65 at h
    split at h
    · cases h; rfl
    · cases h)
  [] (fun v => ⟨ff65 v, q65 v, fun h => by
    unfold f65 at h; unfold ff65
    simp only [Tr.ok, n_f65_1, n_f65_2, true_and, and_true, forall_const, implies_true] at h ⊢
    try exact h, qg65 v, qd65 v⟩)
theorem qdd65 (v : V65) : (f65 v).get.2.2 = [] := by
  rw [← qg65, Tr.map_get]; rfl
theorem RepS.chain {t : TS} : ∀ {r k1 : List Nd} {σ : Int → Sl} {n : Nat}, RepS t (k1 ++ r) σ → r.length ≤ n → chF t.M n (hdA r 0) = tA r
  | [], _, _, n, _, _ => (chF_stop (a := hdA [] 0) (.inl rfl)).trans rfl
  | y :: r, k1, σ, n, h, hn => by
    obtain ⟨m, rfl⟩ : ∃ m, n = m + 1 := ⟨n - 1, by simp at hn; omega⟩
    obtain ⟨e1, e2, e3⟩ := h.mem
    have hnz : y.t ≠ 0 := (h.ok y (by simp)).nz
    have hx : (sN y (hdA r 0) (lsA k1 0)).x = hdA r 0 := rfl
    show chF t.M (m + 1) y.t = _
    have h' : RepS t ((k1 ++ [y]) ++ r) σ := by simpa using h
    rw [chF_on hnz rfl, e2, hx, RepS.chain h' (by simp at hn; omega)]
    rfl
theorem RepS.list {t : TS} {l : List Nd} {σ : Int → Sl} (h : RepS t l σ) : chF t.M t.c.toNat t.f = tA l := by
  rw [h.f, h.c]
  have h' : RepS t ([] ++ l) σ := h
  exact RepS.chain h' (by simp)
def cp7 (z : Sl) : Sl := ⟨z.k, z.a, z.b, z.r, z.g, z.s, z.m, 0, 0, 0⟩
theorem RepS.tells {t : TS} {l : List Nd} {σ : Int → Sl} (h : RepS t l σ) {y : Nd} (hm : y ∈ l) : Go.Sx.M.ldE t.M y.t = 0 ∧ cp7 (Go.Sx.M.ld t.M y.t) = slN y ∧ dpE t.M y.t = y.d ∧ U64 y.t ∧ (Go.Sx.M.ld t.M y.t).d = y.d := by
  obtain ⟨k1, r, rfl⟩ := List.append_of_mem hm
  obtain ⟨e1, e2, e3⟩ := h.mem
  have ok := h.ok y (by simp)
  refine ⟨(h.E.ld ok.at_).2, by rw [e2]; rfl, ?_, e3, by rw [e2]; rfl⟩
  unfold dpE
  rw [e1, e2]
  rfl
set_option maxRecDepth 100000
theorem l65 {p : P65_0} {s : S65_0} {σ : Int → Sl} (hp : p.N1 = p.n26 ∧ p.n26 ≤ 100000 ∧ p.x27 = p.n26) (hr : RepS ⟨p.R2, p.xh0_1, p.xh0_2⟩ (nds (ndf p.F1_0 p.F1_1 p.F1_2 p.F1_3 p.F1_4 p.F1_5 p.F1_6 p.F1_7 p.F1_8) p.n26) σ)
    (h4 : p.n5 = p.n26 ∧ p.N4 = p.n26) (hF : ∀ j, j < p.n26 → p.F4_0 j = p.F1_0 j) (hs : s.x28 = 0) : LT (r65_0 p) s ∧ e65_0_0 p (lastS (r65_0 p) s) = true := by
  obtain ⟨hN, hL, h27⟩ := hp
  refine LT.post (fun s : S65_0 => ∃ k : Nat, s.x28 = k ∧ k ≤ p.n26) (fun s : S65_0 => e65_0_0 p s = true) (fun s : S65_0 => (p.n26 - s.x28).toNat) ?_ ⟨0, hs, Nat.zero_le _⟩
  rintro ⟨x28⟩ ⟨k, g1, g2⟩
  simp only at g1
  subst g1
  have w2 : IntKind.i64.wrap ((k:Int) + 1) = ((k + 1:Nat):Int) := by rw [wi (by omega) (by omega)]; omega
  have e9 : e65_0_9 p ⟨k⟩ = k := by show 0 + (k:Int).toNat = k; omega
  by_cases hc : k < p.n26
  · have hd : e65_0_0 p ⟨k⟩ = false := by
      show cnd (decide ((k:Int) < p.x27)) false true = false
      rw [h27, decide_eq_true (by omega)]; rfl
    have hm : ndf p.F1_0 p.F1_1 p.F1_2 p.F1_3 p.F1_4 p.F1_5 p.F1_6 p.F1_7 p.F1_8 k ∈ nds (ndf p.F1_0 p.F1_1 p.F1_2 p.F1_3 p.F1_4 p.F1_5 p.F1_6 p.F1_7 p.F1_8) p.n26 := by
      unfold nds
      exact List.mem_map.2 ⟨k, List.mem_range.2 hc, rfl⟩
    obtain ⟨t1, t2, t3, t4, _⟩ := hr.tells hm
    have t1 : ldE p.R2 (p.F1_0 k) = 0 := t1
    have t2 : cp7 (ld p.R2 (p.F1_0 k)) = ⟨p.F1_1 k, p.F1_2 k, p.F1_3 k, p.F1_4 k, p.F1_5 k, p.F1_6 k, p.F1_7 k, 0, 0, 0⟩ := t2
    have t3 : dpE p.R2 (p.F1_0 k) = p.F1_8 k := t3
    have t4 : U64 (p.F1_0 k) := t4
    have e10 : e65_0_10 p ⟨k⟩ = p.F1_0 k := by unfold e65_0_10; rw [e9]
    have c1 := congrArg Sl.k t2
    have c2 := congrArg Sl.a t2
    have c3 := congrArg Sl.b t2
    have c4 := congrArg Sl.r t2
    have c5 := congrArg Sl.g t2
    have c6 := congrArg Sl.s t2
    have c7 := congrArg Sl.m t2
    simp only [cp7] at c1 c2 c3 c4 c5 c6 c7
    have e12 : e65_0_12 p ⟨k⟩ = false := by
      unfold e65_0_12 e65_0_11
      rw [e10, e9, hF k hc, t1, c1, c2, c3, c4, c5, c6, c7]
      simp [cnd]
    have e6 : e65_0_6 p ⟨k⟩ = false := by
      unfold e65_0_6
      rw [e12, e10, e9, t3]
      simp [cnd]
    simp only [r65_0, hd, e6, Tr.ok, Tr.get]
    refine ⟨⟨(fun e => by cases e), fun _ => ⟨⟨by show (0:Int) ≤ k; omega, by show (k:Int) < p.n26; omega⟩, by show e65_0_9 p ⟨k⟩ < p.N1; rw [e9, hN]; exact hc, by show U64 (e65_0_10 p ⟨k⟩); rw [e10]; exact t4,
      ⟨fun _ => ⟨by show (0:Int) ≤ k; omega, by show (k:Int) < p.n5; rw [h4.1]; omega⟩, fun _ => by rw [e9, h4.2]; exact hc, fun _ => by show U64 (e65_0_10 p ⟨k⟩); rw [e10]; exact t4⟩, (fun e => by cases e), fun _ => trivial⟩⟩, .inr ⟨_, rfl, ⟨k + 1, w2, hc⟩, ?_⟩⟩
    show ((p.n26:Int) - e65_0_8 p _).toNat < ((p.n26:Int) - (k:Int)).toNat
    simp only [e65_0_8, w2]
    omega
  · have hd : e65_0_0 p ⟨k⟩ = true := by
      show cnd (decide ((k:Int) < p.x27)) false true = true
      rw [h27, decide_eq_false (by omega)]; rfl
    refine ⟨?_, .inl ⟨?_, hd⟩⟩
    · simp only [r65_0, hd, Tr.ok]
      exact ⟨fun _ => trivial, (fun e => by cases e)⟩
    · simp only [r65_0, hd, Tr.get]
      exact ⟨_, _, _, rfl⟩
def pre65 (v : V65) : Prop := (v.Q = v.L ∧ v.L ≤ 100000) ∧ TR (TS.mk v.M v.f v.c) ∧ ∃ σ, RepS (TS.mk v.M v.f v.c) (nds (ndf v.t v.k v.a v.b v.r v.g v.s v.m v.d) v.L) σ
theorem n65 (v : V65) (h : pre65 v) : (f65 v).ok ∧ (f65 v).get.1 = .bool true ∧ HOws (f65 v).get.2.1 [HO.cells 175 [.ptr 2 0, .int .u64 (v.f), .int .i64 (v.c)], HO.row 100 9 v.Q (fun j => [.int .u64 (v.t j), .int .i64 (v.k j), .int .u64 (v.a j), .int .i64 (v.b j), .int .i64 (v.r j), .int .i64 (v.g j), .int .i64 (v.s j), .int .u64 (v.m j), .int .i64 (v.d j)]), HO.res v.M] := by
  obtain ⟨⟨hQ, hL⟩, hT0, σ, hr⟩ := h
  have hl := hr.list
  have hl : chF v.M v.c.toNat v.f = tA (nds (ndf v.t v.k v.a v.b v.r v.g v.s v.m v.d) v.L) := hl
  have hlen : (chF v.M v.c.toNat v.f).length = v.L := by rw [hl]; simp [tA, nds_len]
  have hcc : v.c = v.L := by have := hr.c; rw [nds_len] at this; exact this
  have hT : TR ⟨v.M, v.f, v.c⟩ ∧ v.c ≤ 100000 := ⟨hT0, by rw [hcc]; omega⟩
  have e6 : f65_6 v = false := by
    unfold f65_6 f65_5
    rw [hlen, hcc]
    simp [cnd]
  have main := l65 (p := f65_7 v) (s := ⟨0⟩) (σ := σ) ⟨hQ, hL, rfl⟩ hr ⟨hlen, hlen⟩ (fun j hj => by
    show (chF v.M v.c.toNat v.f).getD j 0 = v.t j
    have hj : j < v.L := hj
    rw [hl]
    simp [tA, nds, List.getD, hj, ndf]) rfl
  have e00 : e65_0_0 (f65_7 v) (f65z0 v) = true := main.2
  refine ⟨⟨hT, fun _ => main.1, trivial⟩, ?_, .refl _⟩
  simp only [f65, Tr.get, f65_4, e6, e00]
  rfl
noncomputable def f65n (v : V65) : Tr (Fin th.R) := .need (pre65 v) (.leaf (.bool true, [.cells 175 [.ptr 2 0, .int .u64 (v.f), .int .i64 (v.c)], .row 100 9 v.Q (fun j => [.int .u64 (v.t j), .int .i64 (v.k j), .int .u64 (v.a j), .int .i64 (v.b j), .int .i64 (v.r j), .int .i64 (v.g j), .int .i64 (v.s j), .int .u64 (v.m j), .int .i64 (v.d j)]), .res v.M], []))
theorem s65n : Sound Try.prog th 65 (fnC d65 ofV65 f65n) := fnC_refine s65 fun v h => by
  obtain ⟨hp, _⟩ := h
  obtain ⟨a, b, c⟩ := n65 v hp
  exact ⟨a, b.symm, (qdd65 v).symm, c, by show 3 ≤ 3; decide⟩
noncomputable def nice65n : List (Nat × CF th.R) := (65, lift (fnC d65 ofV65 f65n)) :: nice53n
theorem nok65n : NiceOk Try.prog th nice65n := ⟨lift_sound s65n, nok53n⟩
set_option maxRecDepth 100000
theorem l62 {p : P62_0} {s : S62_0} (h0 : p.n0 ≤ p.N0) (h1 : p.n1 = p.n0 ∧ p.n1 ≤ p.N1) (h2 : p.x12 = p.n0) (hL : p.n0 ≤ 1000000) (hs : s.x13 = 0) : LT (r62_0 p) s ∧ (e62_0_0 p (lastS (r62_0 p) s) = decide (ls p.F0_0 p.n0 = ls p.F1_0 p.n0)) := by
  refine LT.post (fun s : S62_0 => ∃ k : Nat, s.x13 = k ∧ k ≤ p.n0 ∧ ∀ j, j < k → p.F0_0 j = p.F1_0 j) (fun s : S62_0 => e62_0_0 p s = decide (ls p.F0_0 p.n0 = ls p.F1_0 p.n0)) (fun s : S62_0 => (p.n0 - s.x13).toNat) ?_ ⟨0, hs, Nat.zero_le _, fun j hj => absurd hj (Nat.not_lt_zero _)⟩
  rintro ⟨x13⟩ ⟨k, g1, g2, g3⟩
  simp only at g1
  subst g1
  have w2 : IntKind.i64.wrap ((k:Int) + 1) = ((k + 1:Nat):Int) := by rw [wi (by omega) (by omega)]; omega
  have e6 : e62_0_6 p ⟨k⟩ = k := by show 0 + (k:Int).toNat = k; omega
  by_cases hc : k < p.n0
  · have hd : e62_0_0 p ⟨k⟩ = false := by
      show cnd (decide ((k:Int) < p.x12)) false true = false
      rw [h2, decide_eq_true (by omega)]; rfl
    have n2 : e62_0_2 p ⟨k⟩ := ⟨fun _ => ⟨by show (0:Int) ≤ k; omega, by show (k:Int) < p.n0; omega⟩, fun _ => by rw [e6]; omega, fun _ => ⟨by show (0:Int) ≤ k; omega, by show (k:Int) < p.n1; omega⟩, fun _ => by rw [e6]; omega⟩
    by_cases he : p.F0_0 k = p.F1_0 k
    · have e3 : e62_0_3 p ⟨k⟩ = false := by unfold e62_0_3; rw [e6, he]; exact bne_self_eq_false _
      simp only [r62_0, hd, e3, Tr.ok, Tr.get]
      refine ⟨⟨(fun e => by cases e), fun _ => ⟨n2, (fun e => by cases e), fun _ => trivial⟩⟩, .inr ⟨_, rfl, ⟨k + 1, w2, hc, fun j hj => ?_⟩, ?_⟩⟩
      · by_cases hjk : j = k
        · rw [hjk]; exact he
        · exact g3 j (by omega)
      · show ((p.n0:Int) - e62_0_5 p _).toNat < ((p.n0:Int) - (k:Int)).toNat
        simp only [e62_0_5, w2]
        omega
    · have e3 : e62_0_3 p ⟨k⟩ = true := by unfold e62_0_3; rw [e6]; exact bne_iff_ne.2 he
      refine ⟨?_, .inl ⟨?_, ?_⟩⟩
      · simp only [r62_0, hd, e3, Tr.ok]
        exact ⟨(fun e => by cases e), fun _ => ⟨n2, fun _ => trivial, (fun e => by cases e)⟩⟩
      · simp only [r62_0, hd, e3, Tr.get]
        exact ⟨_, _, _, rfl⟩
      · show e62_0_0 p ⟨k⟩ = _
        rw [hd]
        refine (decide_eq_false fun e => he ?_).symm
        have := congrArg (fun l => l[k]?) e
        simpa [ls, hc] using this
  · have hd : e62_0_0 p ⟨k⟩ = true := by
      show cnd (decide ((k:Int) < p.x12)) false true = true
      rw [h2, decide_eq_false (by omega)]; rfl
    refine ⟨?_, .inl ⟨?_, ?_⟩⟩
    · simp only [r62_0, hd, Tr.ok]
      exact ⟨fun _ => trivial, (fun e => by cases e)⟩
    · simp only [r62_0, hd, Tr.get]
      exact ⟨_, _, _, rfl⟩
    · show e62_0_0 p ⟨k⟩ = _
      rw [hd]
      refine (decide_eq_true ?_).symm
      unfold ls
      apply List.map_congr_left
      intro j hj
      rw [List.mem_range] at hj
      exact g3 j (by omega)
def pre62 (v : V62) : Prop := v.L ≤ v.Q ∧ v.K ≤ v.N ∧ v.L ≤ 1000000
theorem n62 (v : V62) (h : pre62 v) : (f62 v).ok ∧ (f62 v).get.1 = .bool (decide (ls v.p v.L = ls v.q v.K)) ∧ HOws (f62 v).get.2.1 [HO.row 22 1 v.Q (fun j => [.int .u64 (v.p j)]), HO.row 22 1 v.N (fun j => [.int .u64 (v.q j)])] := by
  obtain ⟨h1, h2, h3⟩ := h
  by_cases hz : v.L = v.K
  · have h3' : f62_3 v = false := by unfold f62_3; rw [hz]; exact bne_self_eq_false _
    have main := l62 (p := f62_4 v) (s := ⟨0⟩) h1 ⟨hz.symm, h2⟩ rfl h3 rfl
    have m2 : e62_0_0 (f62_4 v) (f62z0 v) = decide (ls v.p v.L = ls v.q v.L) := main.2
    refine ⟨⟨fun _ => main.1, trivial⟩, ?_, .refl _⟩
    simp only [f62, Tr.get, f62_2, h3', m2, ← hz]
    cases decide (ls v.p v.L = ls v.q v.L) <;> rfl
  · have h3' : f62_3 v = true := by unfold f62_3; exact bne_iff_ne.2 (by omega)
    refine ⟨⟨(fun e => by rw [h3'] at e; cases e), trivial⟩, ?_, .refl _⟩
    have hne : ¬ (ls v.p v.L = ls v.q v.K) := fun e => hz (by have := congrArg List.length e; simpa [ls_len] using this)
    simp only [f62, Tr.get, f62_2, h3', decide_eq_false hne]
    rfl
noncomputable def f62n (v : V62) : Tr (Fin th.R) := .need (pre62 v) (.leaf (.bool (decide (ls v.p v.L = ls v.q v.K)), [.row 22 1 v.Q (fun j => [.int .u64 (v.p j)]), .row 22 1 v.N (fun j => [.int .u64 (v.q j)])], []))
theorem s62n : Sound Try.prog th 62 (fnC d62 ofV62 f62n) := fnC_refine s62 fun v h => by
  obtain ⟨hp, _⟩ := h
  obtain ⟨a, b, c⟩ := n62 v hp
  exact ⟨a, b.symm, (qdd62 v).symm, c, by show 2 ≤ 2; decide⟩
noncomputable def nice62n : List (Nat × CF th.R) := (62, lift (fnC d62 ofV62 f62n)) :: nice65n
theorem nok62n : NiceOk Try.prog th nice62n := ⟨lift_sound s62n, nok65n⟩
set_option maxRecDepth 100000
structure V52 where
def A52 (v : V52) : List SV := []
def H52 (v : V52) : List (HO th.R) := []
def toV52 (v : V52) : List (Vl th.R) := []
def ofV52 : List (Vl th.R) → Option V52
  | [] => some ⟨⟩
  | _ => none
def d52 : Ft := ⟨[], []⟩
noncomputable def f52_0 (v : V52) : (Prop) := pre53 V53.mk
noncomputable def f52_1 (v : V52) : (Prop) := true = true → pre109 (V109.mk (256:Int) (8:Int) (0:Int) (7:Int) (0:Int) (0:Int) (0:Int) (0:Int) (0:Int) (0:Int) op0.fst.M)
noncomputable def f52_2 (v : V52) : (Prop) := true = true → pre56 (V56.mk (256:Int) (288:Int) (8:Int) (128:Int) (7:Int) (0:Int) (0:Int) (0:Int) (0:Int) (256:Int) (1:Int) (mrgM true (rtT (TS.mk op0.fst.M (0:Int) (0:Int)) (256:Int) (Sl.mk (8:Int) (0:Int) (7:Int) (0:Int) (0:Int) (0:Int) (0:Int) (0:Int) (0:Int) (0:Int))).M op0.fst.M))
noncomputable def f52_3 (v : V52) : (Prop) := true = true → pre56 (V56.mk (256:Int) (320:Int) (8:Int) (256:Int) (7:Int) (0:Int) (0:Int) (0:Int) (0:Int) (256:Int) (2:Int) (mrgM true (chT (TS.mk (mrgM true (rtT (TS.mk op0.fst.M (0:Int) (0:Int)) (256:Int) (Sl.mk (8:Int) (0:Int) (7:Int) (0:Int) (0:Int) (0:Int) (0:Int) (0:Int) (0:Int) (0:Int))).M op0.fst.M) (256:Int) (1:Int)) (256:Int) (288:Int) (Sl.mk (8:Int) (128:Int) (7:Int) (0:Int) (0:Int) (0:Int) (0:Int) (0:Int) (0:Int) (0:Int))).M (mrgM true (rtT (TS.mk op0.fst.M (0:Int) (0:Int)) (256:Int) (Sl.mk (8:Int) (0:Int) (7:Int) (0:Int) (0:Int) (0:Int) (0:Int) (0:Int) (0:Int) (0:Int))).M op0.fst.M)))
noncomputable def f52_4 (v : V52) : (Prop) := false = false → pre75 (V75.mk (256:Int) (3:Int) (mrgM true (chT (TS.mk (mrgM true (chT (TS.mk (mrgM true (rtT (TS.mk op0.fst.M (0:Int) (0:Int)) (256:Int) (Sl.mk (8:Int) (0:Int) (7:Int) (0:Int) (0:Int) (0:Int) (0:Int) (0:Int) (0:Int) (0:Int))).M op0.fst.M) (256:Int) (1:Int)) (256:Int) (288:Int) (Sl.mk (8:Int) (128:Int) (7:Int) (0:Int) (0:Int) (0:Int) (0:Int) (0:Int) (0:Int) (0:Int))).M (mrgM true (rtT (TS.mk op0.fst.M (0:Int) (0:Int)) (256:Int) (Sl.mk (8:Int) (0:Int) (7:Int) (0:Int) (0:Int) (0:Int) (0:Int) (0:Int) (0:Int) (0:Int))).M op0.fst.M)) (256:Int) (2:Int)) (256:Int) (320:Int) (Sl.mk (8:Int) (256:Int) (7:Int) (0:Int) (0:Int) (0:Int) (0:Int) (0:Int) (0:Int) (0:Int))).M (mrgM true (chT (TS.mk (mrgM true (rtT (TS.mk op0.fst.M (0:Int) (0:Int)) (256:Int) (Sl.mk (8:Int) (0:Int) (7:Int) (0:Int) (0:Int) (0:Int) (0:Int) (0:Int) (0:Int) (0:Int))).M op0.fst.M) (256:Int) (1:Int)) (256:Int) (288:Int) (Sl.mk (8:Int) (128:Int) (7:Int) (0:Int) (0:Int) (0:Int) (0:Int) (0:Int) (0:Int) (0:Int))).M (mrgM true (rtT (TS.mk op0.fst.M (0:Int) (0:Int)) (256:Int) (Sl.mk (8:Int) (0:Int) (7:Int) (0:Int) (0:Int) (0:Int) (0:Int) (0:Int) (0:Int) (0:Int))).M op0.fst.M))))
noncomputable def f52_5 (v : V52) : (Prop) := false = false → ∀ (i:Nat), scpL (0:Nat) ((fun (j:Nat) => [SV.int IntKind.u64 ((chF (mrgM true (chT (TS.mk (mrgM true (chT (TS.mk (mrgM true (rtT (TS.mk op0.fst.M (0:Int) (0:Int)) (256:Int) (Sl.mk (8:Int) (0:Int) (7:Int) (0:Int) (0:Int) (0:Int) (0:Int) (0:Int) (0:Int) (0:Int))).M op0.fst.M) (256:Int) (1:Int)) (256:Int) (288:Int) (Sl.mk (8:Int) (128:Int) (7:Int) (0:Int) (0:Int) (0:Int) (0:Int) (0:Int) (0:Int) (0:Int))).M (mrgM true (rtT (TS.mk op0.fst.M (0:Int) (0:Int)) (256:Int) (Sl.mk (8:Int) (0:Int) (7:Int) (0:Int) (0:Int) (0:Int) (0:Int) (0:Int) (0:Int) (0:Int))).M op0.fst.M)) (256:Int) (2:Int)) (256:Int) (320:Int) (Sl.mk (8:Int) (256:Int) (7:Int) (0:Int) (0:Int) (0:Int) (0:Int) (0:Int) (0:Int) (0:Int))).M (mrgM true (chT (TS.mk (mrgM true (rtT (TS.mk op0.fst.M (0:Int) (0:Int)) (256:Int) (Sl.mk (8:Int) (0:Int) (7:Int) (0:Int) (0:Int) (0:Int) (0:Int) (0:Int) (0:Int) (0:Int))).M op0.fst.M) (256:Int) (1:Int)) (256:Int) (288:Int) (Sl.mk (8:Int) (128:Int) (7:Int) (0:Int) (0:Int) (0:Int) (0:Int) (0:Int) (0:Int) (0:Int))).M (mrgM true (rtT (TS.mk op0.fst.M (0:Int) (0:Int)) (256:Int) (Sl.mk (8:Int) (0:Int) (7:Int) (0:Int) (0:Int) (0:Int) (0:Int) (0:Int) (0:Int) (0:Int))).M op0.fst.M))) (3:Nat) (256:Int)).getD j (0:Int))]) i) = true
noncomputable def f52_6 (v : V52) : (Prop) := false = false → pre58 (V58.mk (256:Int) (256:Int) (3:Int) (mrgM true (chT (TS.mk (mrgM true (chT (TS.mk (mrgM true (rtT (TS.mk op0.fst.M (0:Int) (0:Int)) (256:Int) (Sl.mk (8:Int) (0:Int) (7:Int) (0:Int) (0:Int) (0:Int) (0:Int) (0:Int) (0:Int) (0:Int))).M op0.fst.M) (256:Int) (1:Int)) (256:Int) (288:Int) (Sl.mk (8:Int) (128:Int) (7:Int) (0:Int) (0:Int) (0:Int) (0:Int) (0:Int) (0:Int) (0:Int))).M (mrgM true (rtT (TS.mk op0.fst.M (0:Int) (0:Int)) (256:Int) (Sl.mk (8:Int) (0:Int) (7:Int) (0:Int) (0:Int) (0:Int) (0:Int) (0:Int) (0:Int) (0:Int))).M op0.fst.M)) (256:Int) (2:Int)) (256:Int) (320:Int) (Sl.mk (8:Int) (256:Int) (7:Int) (0:Int) (0:Int) (0:Int) (0:Int) (0:Int) (0:Int) (0:Int))).M (mrgM true (chT (TS.mk (mrgM true (rtT (TS.mk op0.fst.M (0:Int) (0:Int)) (256:Int) (Sl.mk (8:Int) (0:Int) (7:Int) (0:Int) (0:Int) (0:Int) (0:Int) (0:Int) (0:Int) (0:Int))).M op0.fst.M) (256:Int) (1:Int)) (256:Int) (288:Int) (Sl.mk (8:Int) (128:Int) (7:Int) (0:Int) (0:Int) (0:Int) (0:Int) (0:Int) (0:Int) (0:Int))).M (mrgM true (rtT (TS.mk op0.fst.M (0:Int) (0:Int)) (256:Int) (Sl.mk (8:Int) (0:Int) (7:Int) (0:Int) (0:Int) (0:Int) (0:Int) (0:Int) (0:Int) (0:Int))).M op0.fst.M))))
noncomputable def f52_7 (v : V52) : (Prop) := false = false → ∀ (i:Nat), scpL (0:Nat) ((fun (j:Nat) => [SV.int IntKind.u64 ((blw (mrgM true (chT (TS.mk (mrgM true (chT (TS.mk (mrgM true (rtT (TS.mk op0.fst.M (0:Int) (0:Int)) (256:Int) (Sl.mk (8:Int) (0:Int) (7:Int) (0:Int) (0:Int) (0:Int) (0:Int) (0:Int) (0:Int) (0:Int))).M op0.fst.M) (256:Int) (1:Int)) (256:Int) (288:Int) (Sl.mk (8:Int) (128:Int) (7:Int) (0:Int) (0:Int) (0:Int) (0:Int) (0:Int) (0:Int) (0:Int))).M (mrgM true (rtT (TS.mk op0.fst.M (0:Int) (0:Int)) (256:Int) (Sl.mk (8:Int) (0:Int) (7:Int) (0:Int) (0:Int) (0:Int) (0:Int) (0:Int) (0:Int) (0:Int))).M op0.fst.M)) (256:Int) (2:Int)) (256:Int) (320:Int) (Sl.mk (8:Int) (256:Int) (7:Int) (0:Int) (0:Int) (0:Int) (0:Int) (0:Int) (0:Int) (0:Int))).M (mrgM true (chT (TS.mk (mrgM true (rtT (TS.mk op0.fst.M (0:Int) (0:Int)) (256:Int) (Sl.mk (8:Int) (0:Int) (7:Int) (0:Int) (0:Int) (0:Int) (0:Int) (0:Int) (0:Int) (0:Int))).M op0.fst.M) (256:Int) (1:Int)) (256:Int) (288:Int) (Sl.mk (8:Int) (128:Int) (7:Int) (0:Int) (0:Int) (0:Int) (0:Int) (0:Int) (0:Int) (0:Int))).M (mrgM true (rtT (TS.mk op0.fst.M (0:Int) (0:Int)) (256:Int) (Sl.mk (8:Int) (0:Int) (7:Int) (0:Int) (0:Int) (0:Int) (0:Int) (0:Int) (0:Int) (0:Int))).M op0.fst.M))) (3:Int) (256:Int)).getD j (0:Int))]) i) = true
noncomputable def f52_8 (v : V52) : (Prop) := false = false → true = true → (0:Int) ≤ (1:Int) ∧ (1:Int) < (3:Int)
noncomputable def f52_9 (v : V52) : (Prop) := false = false → true = true → (1:Nat) < (3:Nat)
noncomputable def f52_10 (v : V52) : (Prop) := false = false → true = true → (0:Int) ≤ (2:Int) ∧ (2:Int) < (3:Int)
noncomputable def f52_11 (v : V52) : (Prop) := false = false → true = true → (2:Nat) < (3:Nat)
noncomputable def f52_12 (v : V52) : (Prop) := false = false → true = true → pre63 (V63.mk (256:Int) (256:Int) (3:Int) (mrgM true (chT (TS.mk (mrgM true (chT (TS.mk (mrgM true (rtT (TS.mk op0.fst.M (0:Int) (0:Int)) (256:Int) (Sl.mk (8:Int) (0:Int) (7:Int) (0:Int) (0:Int) (0:Int) (0:Int) (0:Int) (0:Int) (0:Int))).M op0.fst.M) (256:Int) (1:Int)) (256:Int) (288:Int) (Sl.mk (8:Int) (128:Int) (7:Int) (0:Int) (0:Int) (0:Int) (0:Int) (0:Int) (0:Int) (0:Int))).M (mrgM true (rtT (TS.mk op0.fst.M (0:Int) (0:Int)) (256:Int) (Sl.mk (8:Int) (0:Int) (7:Int) (0:Int) (0:Int) (0:Int) (0:Int) (0:Int) (0:Int) (0:Int))).M op0.fst.M)) (256:Int) (2:Int)) (256:Int) (320:Int) (Sl.mk (8:Int) (256:Int) (7:Int) (0:Int) (0:Int) (0:Int) (0:Int) (0:Int) (0:Int) (0:Int))).M (mrgM true (chT (TS.mk (mrgM true (rtT (TS.mk op0.fst.M (0:Int) (0:Int)) (256:Int) (Sl.mk (8:Int) (0:Int) (7:Int) (0:Int) (0:Int) (0:Int) (0:Int) (0:Int) (0:Int) (0:Int))).M op0.fst.M) (256:Int) (1:Int)) (256:Int) (288:Int) (Sl.mk (8:Int) (128:Int) (7:Int) (0:Int) (0:Int) (0:Int) (0:Int) (0:Int) (0:Int) (0:Int))).M (mrgM true (rtT (TS.mk op0.fst.M (0:Int) (0:Int)) (256:Int) (Sl.mk (8:Int) (0:Int) (7:Int) (0:Int) (0:Int) (0:Int) (0:Int) (0:Int) (0:Int) (0:Int))).M op0.fst.M))))
noncomputable def f52_13 (v : V52) : (Prop) := false = false → true = true → pre59 (V59.mk (320:Int) (320:Int) (2:Int) (mrgM true (rmT (TS.mk (mrgM true (chT (TS.mk (mrgM true (chT (TS.mk (mrgM true (rtT (TS.mk op0.fst.M (0:Int) (0:Int)) (256:Int) (Sl.mk (8:Int) (0:Int) (7:Int) (0:Int) (0:Int) (0:Int) (0:Int) (0:Int) (0:Int) (0:Int))).M op0.fst.M) (256:Int) (1:Int)) (256:Int) (288:Int) (Sl.mk (8:Int) (128:Int) (7:Int) (0:Int) (0:Int) (0:Int) (0:Int) (0:Int) (0:Int) (0:Int))).M (mrgM true (rtT (TS.mk op0.fst.M (0:Int) (0:Int)) (256:Int) (Sl.mk (8:Int) (0:Int) (7:Int) (0:Int) (0:Int) (0:Int) (0:Int) (0:Int) (0:Int) (0:Int))).M op0.fst.M)) (256:Int) (2:Int)) (256:Int) (320:Int) (Sl.mk (8:Int) (256:Int) (7:Int) (0:Int) (0:Int) (0:Int) (0:Int) (0:Int) (0:Int) (0:Int))).M (mrgM true (chT (TS.mk (mrgM true (rtT (TS.mk op0.fst.M (0:Int) (0:Int)) (256:Int) (Sl.mk (8:Int) (0:Int) (7:Int) (0:Int) (0:Int) (0:Int) (0:Int) (0:Int) (0:Int) (0:Int))).M op0.fst.M) (256:Int) (1:Int)) (256:Int) (288:Int) (Sl.mk (8:Int) (128:Int) (7:Int) (0:Int) (0:Int) (0:Int) (0:Int) (0:Int) (0:Int) (0:Int))).M (mrgM true (rtT (TS.mk op0.fst.M (0:Int) (0:Int)) (256:Int) (Sl.mk (8:Int) (0:Int) (7:Int) (0:Int) (0:Int) (0:Int) (0:Int) (0:Int) (0:Int) (0:Int))).M op0.fst.M))) (256:Int) (3:Int)) (256:Int)).M (mrgM true (chT (TS.mk (mrgM true (chT (TS.mk (mrgM true (rtT (TS.mk op0.fst.M (0:Int) (0:Int)) (256:Int) (Sl.mk (8:Int) (0:Int) (7:Int) (0:Int) (0:Int) (0:Int) (0:Int) (0:Int) (0:Int) (0:Int))).M op0.fst.M) (256:Int) (1:Int)) (256:Int) (288:Int) (Sl.mk (8:Int) (128:Int) (7:Int) (0:Int) (0:Int) (0:Int) (0:Int) (0:Int) (0:Int) (0:Int))).M (mrgM true (rtT (TS.mk op0.fst.M (0:Int) (0:Int)) (256:Int) (Sl.mk (8:Int) (0:Int) (7:Int) (0:Int) (0:Int) (0:Int) (0:Int) (0:Int) (0:Int) (0:Int))).M op0.fst.M)) (256:Int) (2:Int)) (256:Int) (320:Int) (Sl.mk (8:Int) (256:Int) (7:Int) (0:Int) (0:Int) (0:Int) (0:Int) (0:Int) (0:Int) (0:Int))).M (mrgM true (chT (TS.mk (mrgM true (rtT (TS.mk op0.fst.M (0:Int) (0:Int)) (256:Int) (Sl.mk (8:Int) (0:Int) (7:Int) (0:Int) (0:Int) (0:Int) (0:Int) (0:Int) (0:Int) (0:Int))).M op0.fst.M) (256:Int) (1:Int)) (256:Int) (288:Int) (Sl.mk (8:Int) (128:Int) (7:Int) (0:Int) (0:Int) (0:Int) (0:Int) (0:Int) (0:Int) (0:Int))).M (mrgM true (rtT (TS.mk op0.fst.M (0:Int) (0:Int)) (256:Int) (Sl.mk (8:Int) (0:Int) (7:Int) (0:Int) (0:Int) (0:Int) (0:Int) (0:Int) (0:Int) (0:Int))).M op0.fst.M)))))
noncomputable def f52_14 (v : V52) : (Prop) := false = false → true = true → pre59 (V59.mk (288:Int) (320:Int) (2:Int) (mrgM true (rmT (TS.mk (mrgM true (chT (TS.mk (mrgM true (chT (TS.mk (mrgM true (rtT (TS.mk op0.fst.M (0:Int) (0:Int)) (256:Int) (Sl.mk (8:Int) (0:Int) (7:Int) (0:Int) (0:Int) (0:Int) (0:Int) (0:Int) (0:Int) (0:Int))).M op0.fst.M) (256:Int) (1:Int)) (256:Int) (288:Int) (Sl.mk (8:Int) (128:Int) (7:Int) (0:Int) (0:Int) (0:Int) (0:Int) (0:Int) (0:Int) (0:Int))).M (mrgM true (rtT (TS.mk op0.fst.M (0:Int) (0:Int)) (256:Int) (Sl.mk (8:Int) (0:Int) (7:Int) (0:Int) (0:Int) (0:Int) (0:Int) (0:Int) (0:Int) (0:Int))).M op0.fst.M)) (256:Int) (2:Int)) (256:Int) (320:Int) (Sl.mk (8:Int) (256:Int) (7:Int) (0:Int) (0:Int) (0:Int) (0:Int) (0:Int) (0:Int) (0:Int))).M (mrgM true (chT (TS.mk (mrgM true (rtT (TS.mk op0.fst.M (0:Int) (0:Int)) (256:Int) (Sl.mk (8:Int) (0:Int) (7:Int) (0:Int) (0:Int) (0:Int) (0:Int) (0:Int) (0:Int) (0:Int))).M op0.fst.M) (256:Int) (1:Int)) (256:Int) (288:Int) (Sl.mk (8:Int) (128:Int) (7:Int) (0:Int) (0:Int) (0:Int) (0:Int) (0:Int) (0:Int) (0:Int))).M (mrgM true (rtT (TS.mk op0.fst.M (0:Int) (0:Int)) (256:Int) (Sl.mk (8:Int) (0:Int) (7:Int) (0:Int) (0:Int) (0:Int) (0:Int) (0:Int) (0:Int) (0:Int))).M op0.fst.M))) (256:Int) (3:Int)) (256:Int)).M (mrgM true (chT (TS.mk (mrgM true (chT (TS.mk (mrgM true (rtT (TS.mk op0.fst.M (0:Int) (0:Int)) (256:Int) (Sl.mk (8:Int) (0:Int) (7:Int) (0:Int) (0:Int) (0:Int) (0:Int) (0:Int) (0:Int) (0:Int))).M op0.fst.M) (256:Int) (1:Int)) (256:Int) (288:Int) (Sl.mk (8:Int) (128:Int) (7:Int) (0:Int) (0:Int) (0:Int) (0:Int) (0:Int) (0:Int) (0:Int))).M (mrgM true (rtT (TS.mk op0.fst.M (0:Int) (0:Int)) (256:Int) (Sl.mk (8:Int) (0:Int) (7:Int) (0:Int) (0:Int) (0:Int) (0:Int) (0:Int) (0:Int) (0:Int))).M op0.fst.M)) (256:Int) (2:Int)) (256:Int) (320:Int) (Sl.mk (8:Int) (256:Int) (7:Int) (0:Int) (0:Int) (0:Int) (0:Int) (0:Int) (0:Int) (0:Int))).M (mrgM true (chT (TS.mk (mrgM true (rtT (TS.mk op0.fst.M (0:Int) (0:Int)) (256:Int) (Sl.mk (8:Int) (0:Int) (7:Int) (0:Int) (0:Int) (0:Int) (0:Int) (0:Int) (0:Int) (0:Int))).M op0.fst.M) (256:Int) (1:Int)) (256:Int) (288:Int) (Sl.mk (8:Int) (128:Int) (7:Int) (0:Int) (0:Int) (0:Int) (0:Int) (0:Int) (0:Int) (0:Int))).M (mrgM true (rtT (TS.mk op0.fst.M (0:Int) (0:Int)) (256:Int) (Sl.mk (8:Int) (0:Int) (7:Int) (0:Int) (0:Int) (0:Int) (0:Int) (0:Int) (0:Int) (0:Int))).M op0.fst.M)))))
noncomputable def f52_15 (v : V52) : (Prop) := false = false → true = true → pre59 (V59.mk (256:Int) (320:Int) (2:Int) (mrgM true (rmT (TS.mk (mrgM true (chT (TS.mk (mrgM true (chT (TS.mk (mrgM true (rtT (TS.mk op0.fst.M (0:Int) (0:Int)) (256:Int) (Sl.mk (8:Int) (0:Int) (7:Int) (0:Int) (0:Int) (0:Int) (0:Int) (0:Int) (0:Int) (0:Int))).M op0.fst.M) (256:Int) (1:Int)) (256:Int) (288:Int) (Sl.mk (8:Int) (128:Int) (7:Int) (0:Int) (0:Int) (0:Int) (0:Int) (0:Int) (0:Int) (0:Int))).M (mrgM true (rtT (TS.mk op0.fst.M (0:Int) (0:Int)) (256:Int) (Sl.mk (8:Int) (0:Int) (7:Int) (0:Int) (0:Int) (0:Int) (0:Int) (0:Int) (0:Int) (0:Int))).M op0.fst.M)) (256:Int) (2:Int)) (256:Int) (320:Int) (Sl.mk (8:Int) (256:Int) (7:Int) (0:Int) (0:Int) (0:Int) (0:Int) (0:Int) (0:Int) (0:Int))).M (mrgM true (chT (TS.mk (mrgM true (rtT (TS.mk op0.fst.M (0:Int) (0:Int)) (256:Int) (Sl.mk (8:Int) (0:Int) (7:Int) (0:Int) (0:Int) (0:Int) (0:Int) (0:Int) (0:Int) (0:Int))).M op0.fst.M) (256:Int) (1:Int)) (256:Int) (288:Int) (Sl.mk (8:Int) (128:Int) (7:Int) (0:Int) (0:Int) (0:Int) (0:Int) (0:Int) (0:Int) (0:Int))).M (mrgM true (rtT (TS.mk op0.fst.M (0:Int) (0:Int)) (256:Int) (Sl.mk (8:Int) (0:Int) (7:Int) (0:Int) (0:Int) (0:Int) (0:Int) (0:Int) (0:Int) (0:Int))).M op0.fst.M))) (256:Int) (3:Int)) (256:Int)).M (mrgM true (chT (TS.mk (mrgM true (chT (TS.mk (mrgM true (rtT (TS.mk op0.fst.M (0:Int) (0:Int)) (256:Int) (Sl.mk (8:Int) (0:Int) (7:Int) (0:Int) (0:Int) (0:Int) (0:Int) (0:Int) (0:Int) (0:Int))).M op0.fst.M) (256:Int) (1:Int)) (256:Int) (288:Int) (Sl.mk (8:Int) (128:Int) (7:Int) (0:Int) (0:Int) (0:Int) (0:Int) (0:Int) (0:Int) (0:Int))).M (mrgM true (rtT (TS.mk op0.fst.M (0:Int) (0:Int)) (256:Int) (Sl.mk (8:Int) (0:Int) (7:Int) (0:Int) (0:Int) (0:Int) (0:Int) (0:Int) (0:Int) (0:Int))).M op0.fst.M)) (256:Int) (2:Int)) (256:Int) (320:Int) (Sl.mk (8:Int) (256:Int) (7:Int) (0:Int) (0:Int) (0:Int) (0:Int) (0:Int) (0:Int) (0:Int))).M (mrgM true (chT (TS.mk (mrgM true (rtT (TS.mk op0.fst.M (0:Int) (0:Int)) (256:Int) (Sl.mk (8:Int) (0:Int) (7:Int) (0:Int) (0:Int) (0:Int) (0:Int) (0:Int) (0:Int) (0:Int))).M op0.fst.M) (256:Int) (1:Int)) (256:Int) (288:Int) (Sl.mk (8:Int) (128:Int) (7:Int) (0:Int) (0:Int) (0:Int) (0:Int) (0:Int) (0:Int) (0:Int))).M (mrgM true (rtT (TS.mk op0.fst.M (0:Int) (0:Int)) (256:Int) (Sl.mk (8:Int) (0:Int) (7:Int) (0:Int) (0:Int) (0:Int) (0:Int) (0:Int) (0:Int) (0:Int))).M op0.fst.M)))))
theorem n_f52_5 (v : V52) : f52_5 v := by
  unfold f52_5
  (repeat' first | intro _ | apply And.intro) <;> first | rfl | exact absurd (by assumption) (Nat.not_lt_zero _) | omega | decide
theorem n_f52_7 (v : V52) : f52_7 v := by
  unfold f52_7
  (repeat' first | intro _ | apply And.intro) <;> first | rfl | exact absurd (by assumption) (Nat.not_lt_zero _) | omega | decide
theorem n_f52_8 (v : V52) : f52_8 v := by
  unfold f52_8
  (repeat' first | intro _ | apply And.intro) <;> first | rfl | exact absurd (by assumption) (Nat.not_lt_zero _) | omega | decide
theorem n_f52_9 (v : V52) : f52_9 v := by
  unfold f52_9
  (repeat' first | intro _ | apply And.intro) <;> first | rfl | exact absurd (by assumption) (Nat.not_lt_zero _) | omega | decide
theorem n_f52_10 (v : V52) : f52_10 v := by
  unfold f52_10
  (repeat' first | intro _ | apply And.intro) <;> first | rfl | exact absurd (by assumption) (Nat.not_lt_zero _) | omega | decide
theorem n_f52_11 (v : V52) : f52_11 v := by
  unfold f52_11
  (repeat' first | intro _ | apply And.intro) <;> first | rfl | exact absurd (by assumption) (Nat.not_lt_zero _) | omega | decide
noncomputable def ff52 (v : V52) : Tr (Fin th.R) := (Tr.need (f52_0 v) (Tr.need (f52_1 v) (Tr.need (f52_2 v) (Tr.need (f52_3 v) (Tr.need (f52_4 v) (Tr.need (f52_5 v) (Tr.need (f52_6 v) (Tr.need (f52_7 v) (Tr.need (f52_8 v) (Tr.need (f52_9 v) (Tr.need (f52_10 v) (Tr.need (f52_11 v) (Tr.need (f52_12 v) (Tr.need (f52_13 v) (Tr.need (f52_14 v) (Tr.need (f52_15 v) (Tr.leaf (SV.bool (true), List.nil, List.nil))))))))))))))))))
noncomputable def f52 (v : V52) : Tr (Fin th.R) := (Tr.need (f52_0 v) (Tr.need (f52_1 v) (Tr.need (f52_2 v) (Tr.need (f52_3 v) (Tr.need (f52_4 v) (Tr.need (f52_6 v) (Tr.need (f52_12 v) (Tr.need (f52_13 v) (Tr.need (f52_14 v) (Tr.need (f52_15 v) (Tr.leaf (SV.bool (true), List.nil, []))))))))))))
noncomputable def C52 : CF th.R := fnC d52 ofV52 (f52 )
theorem q52 (v : V52) : (evFn th Try.prog (auto th Try.prog nice62n [] 20) (autoH [] [] [] [] : Hints th) 52) (A52 v) (H52 v) = some (ff52 v) := by kernel_rfl
theorem qg52 (v : V52) : ((ff52 v).map (setD [])).get = (f52 v).get := by kernel_rfl
theorem qd52 (v : V52) : allD 0 [] (ff52 v) = true := by kernel_rfl
theorem s52 : Sound Try.prog th 52 (C52 ) := fnC_sound (evFn_sound' (T := th) (P := Try.prog) (tbl := (auto th Try.prog nice62n [] 20)) (auto_sound (nice := nice62n) (us := []) nok62n 20) (H := (autoH [] [] [] [] : Hints th)) (k := 52) (fnLoops (LoopsOk_mem (fun _ => rfl) _ fun _ _ _ e => by cases e))) d52 A52 H52 toV52 (by kernel_rfl) (fun v => by kernel_rfl)
  (fun l v h => by
    unfold ofV52 at h
    split at h
    · cases h; rfl
    · cases h)
  [] (fun v => ⟨ff52 v, q52 v, fun h => by
    unfold f52 at h; unfold ff52
    simp only [Tr.ok, n_f52_5, n_f52_7, n_f52_8, n_f52_9, n_f52_10, n_f52_11, true_and, and_true, forall_const, implies_true] at h ⊢
    try exact h, qg52 v, qd52 v⟩)
theorem qdd52 (v : V52) : (f52 v).get.2.2 = [] := by
  rw [← qg52, Tr.map_get]; rfl
set_option maxRecDepth 100000
def pre52 (v : V52) : Prop := True
theorem n52 (v : V52) (h : pre52 v) : (f52 v).ok ∧ (f52 v).get.1 = .bool true ∧ HOws (f52 v).get.2.1 [] := by
  have u256 : U64 256 := ⟨by decide, by decide⟩
  have u288 : U64 288 := ⟨by decide, by decide⟩
  have u320 : U64 320 := ⟨by decide, by decide⟩
  have i64_2 : I64 2 := ⟨by decide, by decide⟩
  have i64_3 : I64 3 := ⟨by decide, by decide⟩
  have le3 : (3:Int) ≤ 100000 := by decide
  have z0 : SlR ⟨8, 0, 7, 0, 0, 0, 0, 0, 0, 0⟩ := by (repeat' first | apply SlR.mk | apply And.intro) <;> decide
  have z1 : SlR ⟨8, 128, 7, 0, 0, 0, 0, 0, 0, 0⟩ := by (repeat' first | apply SlR.mk | apply And.intro) <;> decide
  have z2 : SlR ⟨8, 256, 7, 0, 0, 0, 0, 0, 0, 0⟩ := by (repeat' first | apply SlR.mk | apply And.intro) <;> decide
  have T0 : TR ⟨op0.1.M, 0, 0⟩ := op0_R
  have r1 := rtT_R T0 u256 z0
  have T1 : TR ⟨mrgM true (rtT ⟨op0.1.M, 0, 0⟩ 256 ⟨8, 0, 7, 0, 0, 0, 0, 0, 0, 0⟩).M op0.1.M, 256, 1⟩ := ⟨mrg_ind (fun _ => r1.1) (fun e => by cases e), u256, by decide, by decide⟩
  have r2 := chT_R T1 u256 u288 z1
  have T2 : ∀ B, TR ⟨mrgM true (chT ⟨mrgM true (rtT ⟨op0.1.M, 0, 0⟩ 256 ⟨8, 0, 7, 0, 0, 0, 0, 0, 0, 0⟩).M op0.1.M, 256, 1⟩ 256 288 ⟨8, 128, 7, 0, 0, 0, 0, 0, 0, 0⟩).M B, 256, 2⟩ := fun B => ⟨mrg_ind (fun _ => r2.1) (fun e => by cases e), u256, i64_2⟩
  have r3 := fun B => chT_R (T2 B) u256 u320 z2
  have T3 : ∀ B C, TR ⟨mrgM true (chT ⟨mrgM true (chT ⟨mrgM true (rtT ⟨op0.1.M, 0, 0⟩ 256 ⟨8, 0, 7, 0, 0, 0, 0, 0, 0, 0⟩).M op0.1.M, 256, 1⟩ 256 288 ⟨8, 128, 7, 0, 0, 0, 0, 0, 0, 0⟩).M B, 256, 2⟩ 256 320 ⟨8, 256, 7, 0, 0, 0, 0, 0, 0, 0⟩).M C, 256, 3⟩ := fun B C => ⟨mrg_ind (fun _ => (r3 B).1) (fun e => by cases e), u256, i64_3⟩
  refine ⟨⟨trivial, fun _ => ⟨u256, z0, T0⟩, fun _ => ⟨⟨u256, u288⟩, z1, T1⟩, fun _ => ⟨⟨u256, u320⟩, z2, T2 _⟩, fun _ => ⟨T3 _ _, le3⟩, fun _ => ⟨u256, T3 _ _, le3⟩, fun _ _ => ⟨u256, T3 _ _, le3⟩, fun _ _ => u320, fun _ _ => u288, fun _ _ => u256, trivial⟩, rfl, .refl _⟩
noncomputable def f52n (v : V52) : Tr (Fin th.R) := .need (pre52 v) (.leaf (.bool true, [], []))
theorem s52n : Sound Try.prog th 52 (fnC d52 ofV52 f52n) := fnC_refine s52 fun v h => by
  obtain ⟨hp, _⟩ := h
  obtain ⟨a, b, c⟩ := n52 v hp
  exact ⟨a, b.symm, (qdd52 v).symm, c, by show 0 ≤ 0; decide⟩
noncomputable def nice52n : List (Nat × CF th.R) := (52, lift (fnC d52 ofV52 f52n)) :: nice62n
theorem nok52n : NiceOk Try.prog th nice52n := ⟨lift_sound s52n, nok62n⟩
set_option maxRecDepth 100000
noncomputable def f58c (v : V58) : Tr (Fin th.R) := .need (pre58 v) (.leaf (.slc 2 1 0 (blw v.M v.c v.at_).length, [.cells 175 [.ptr 1 0, .int .u64 v.f, .int .i64 v.c], .res v.M, .row 22 1 (blw v.M v.c v.at_).length (fun j => [.int .u64 ((blw v.M v.c v.at_).getD j 0)])], []))
theorem cw58 (v : V58) : fnC d58 ofV58 f58n (A58 v) (H58 v) = some ((f58n v).map (fixF (H58 v))) := by kernel_rfl
theorem s58c : Sound Try.prog th 58 (fnC d58 ofV58 f58c) := by
  refine fnC_direct (T := th) d58 A58 H58 toV58 (by kernel_rfl) (fun v => by kernel_rfl) ?_ ?_ (fun v _ => by show 2 ≤ 3; decide) (fun v _ n hn _ => ?_)
  · intro l v h
    unfold ofV58 at h
    split at h
    · cases h; rfl
    · cases h
  · intro v hok K w0 ρ w vargs I hr
    exact fnC_out s58n (cw58 v) ⟨hok.1, trivial⟩ I hr
  · have hn : n < 2 := hn
    rcases n with _ | _ | n
    · rfl
    · rfl
    · omega
def cs66 : List Ck := [.int .u64, .int .i64, .int .u64, .int .i64, .int .i64, .int .i64, .int .i64, .int .u64, .int .i64]
noncomputable def f66c (v : V66) : Tr (Fin th.R) := .need (pre66 v) (.leaf (.slc 1 1 0 (bwL (nds (ndf v.t v.k v.a v.b v.r v.g v.s v.m v.d) v.L) v.at_).length, [.row 100 9 v.Q (fun j => [.int .u64 (v.t j), .int .i64 (v.k j), .int .u64 (v.a j), .int .i64 (v.b j), .int .i64 (v.r j), .int .i64 (v.g j), .int .i64 (v.s j), .int .u64 (v.m j), .int .i64 (v.d j)]), .row 22 1 ((bwL (nds (ndf v.t v.k v.a v.b v.r v.g v.s v.m v.d) v.L) v.at_)).length (fun j => [.int .u64 (((bwL (nds (ndf v.t v.k v.a v.b v.r v.g v.s v.m v.d) v.L) v.at_)).getD j 0)])], []))
theorem cw66 (v : V66) : fnC d66 ofV66 f66n (A66 v) (H66 v) = some (.need (∀ i, i < v.Q → (fun j => [.int .u64 (v.t j), .int .i64 (v.k j), .int .u64 (v.a j), .int .i64 (v.b j), .int .i64 (v.r j), .int .i64 (v.g j), .int .i64 (v.s j), .int .u64 (v.m j), .int .i64 (v.d j)] : Nat → List SV) i = elC (fun j => [.int .u64 (v.t j), .int .i64 (v.k j), .int .u64 (v.a j), .int .i64 (v.b j), .int .i64 (v.r j), .int .i64 (v.g j), .int .i64 (v.s j), .int .u64 (v.m j), .int .i64 (v.d j)] : Nat → List SV) 0 cs66 i) ((f66n v).map (fixF (H66 v)))) := by kernel_rfl
theorem s66c : Sound Try.prog th 66 (fnC d66 ofV66 f66c) := by
  refine fnC_direct (T := th) d66 A66 H66 toV66 (by kernel_rfl) (fun v => by kernel_rfl) ?_ ?_ (fun v _ => by show 1 ≤ 2; decide) (fun v _ n hn _ => ?_)
  · intro l v h
    unfold ofV66 at h
    split at h
    · cases h; rfl
    · cases h
  · intro v hok K w0 ρ w vargs I hr
    exact fnC_out s66n (cw66 v) ⟨fun i _ => rfl, hok.1, trivial⟩ I hr
  · have hn : n < 1 := hn
    rcases n with _ | n
    · rfl
    · omega
noncomputable def nice12c : List (Nat × CF th.R) := (58, lift (fnC d58 ofV58 f58c)) :: (66, lift (fnC d66 ofV66 f66c)) :: nice52n
theorem nok12c : NiceOk Try.prog th nice12c := ⟨lift_sound s58c, lift_sound s66c, nok52n⟩
set_option maxRecDepth 100000
structure V12 where
  L : Nat
  x : Int
  Q : Nat
  ob_ : Obj
  ok : Nat → Int
  oa : Nat → Int
  ob : Nat → Int
  kc : Nat → Int
  ac : Nat → Int
  bc : Nat → Int
  rc : Nat → Int
  gc : Nat → Int
  sc : Nat → Int
  mc : Nat → Int
def A12 (v : V12) : List SV := [.slc 0 10 0 v.L, .int .u64 v.x]
def H12 (v : V12) : List (HO th.R) := [.ro 85 10 v.Q (rw10 v.ok v.oa v.ob v.kc v.ac v.bc v.rc v.gc v.sc v.mc) v.ob_]
def toV12 (v : V12) : List (Vl th.R) := [.n v.L, .i v.x, .n v.Q, .o v.ob_, .c v.ok, .c v.oa, .c v.ob, .c v.kc, .c v.ac, .c v.bc, .c v.rc, .c v.gc, .c v.sc, .c v.mc]
def ofV12 : List (Vl th.R) → Option V12
  | [.n L, .i x, .n Q, .o ob_, .c ok, .c oa, .c ob, .c kc, .c ac, .c bc, .c rc, .c gc, .c sc, .c mc] => some ⟨L, x, Q, ob_, ok, oa, ob, kc, ac, bc, rc, gc, sc, mc⟩
  | _ => none
def d12 : Ft := ⟨[.slc0 0 10, .int .u64], [.roc 85 [.int .i64, .int .u64, .int .u64, .int .i64, .int .u64, .int .i64, .int .i64, .int .i64, .int .i64, .int .u64]]⟩
structure P12_0 where
  x1 : Int
  b4 : Bool
  n30 : Nat
  x31 : Int
  N0 : Nat
  O0 : Obj
  F0_0 : Nat → Int
  F0_1 : Nat → Int
  F0_2 : Nat → Int
  F0_3 : Nat → Int
  F0_4 : Nat → Int
  F0_5 : Nat → Int
  F0_6 : Nat → Int
  F0_7 : Nat → Int
  F0_8 : Nat → Int
  F0_9 : Nat → Int
  xh3_0 : Int
structure S12_0 where
  x32 : Int
  xh1_1 : Int
  xh1_2 : Int
  R2 : th.R
  n7_1 : Nat
  N4 : Nat
  F4_0 : Nat → Int
  F4_1 : Nat → Int
  F4_2 : Nat → Int
  F4_3 : Nat → Int
  F4_4 : Nat → Int
  F4_5 : Nat → Int
  F4_6 : Nat → Int
  F4_7 : Nat → Int
  F4_8 : Nat → Int
noncomputable instance : Inhabited S12_0 := ⟨⟨0, 0, 0, dR, 0, 0, fun _ => 0, fun _ => 0, fun _ => 0, fun _ => 0, fun _ => 0, fun _ => 0, fun _ => 0, fun _ => 0, fun _ => 0⟩⟩
def I12_0 (p : P12_0) (s : S12_0) : St th.R := ⟨[none, some (.int .u64 p.x1), none, none, some (.bool p.b4), some (.ptr 1 0), none, some (.ptr 3 0), none, none, none, none, none, none, none, none, none, none, none, none, none, none, none, none, none, none, none, none, none, none, some (.slc 0 10 0 p.n30), some (.int .i64 p.x31), some (.int .i64 s.x32), none, none, none, none, none, none, none, none, none, none, none, none, none, none, none, none, none, none, none, none, none, none, none, none, none, none, none, none, none, none, none, none, none, none, none, none, none, none, none, none, none, none, none, none, none, none, none, none, none, none, none, none, none, none, none, none, none, none, none, none, none, none, none, none, none, none, none, none, none, none, none, none, none, none, none, none, none, none, none, none, none, none, none, none, none, none, none, none, none, none, none, none, none, none, none, none], [.ro 85 10 p.N0 (rw10 p.F0_0 p.F0_1 p.F0_2 p.F0_3 p.F0_4 p.F0_5 p.F0_6 p.F0_7 p.F0_8 p.F0_9) p.O0, .cells 175 [.ptr 2 0, .int .u64 s.xh1_1, .int .i64 s.xh1_2], .res s.R2, .cells 55 [.int .u64 p.xh3_0, .slc 4 9 0 s.n7_1], .row 100 9 s.N4 (rw9 s.F4_0 s.F4_1 s.F4_2 s.F4_3 s.F4_4 s.F4_5 s.F4_6 s.F4_7 s.F4_8)], [], []⟩
def d12_0 : Lp := ⟨⟨129, [(1, .int .u64), (4, .bool), (5, .ptr 1 0), (7, .ptr 3 0), (30, .slc0 0 10), (31, .int .i64), (32, .int .i64)], [.roc 85 [.int .i64, .int .u64, .int .u64, .int .i64, .int .u64, .int .i64, .int .i64, .int .i64, .int .i64, .int .u64], .cells 175 [.ptr 2 0, .int .u64, .int .i64], .res, .cells 55 [.int .u64, .slc0 4 9], .rowc 100 [.int .u64, .int .i64, .int .u64, .int .i64, .int .i64, .int .i64, .int .i64, .int .u64, .int .i64]]⟩, [⟨2007, 100, 9⟩], 4, [1, 2, 3], [1, 4, 5, 7, 73, 74, 75, 76, 77, 78, 79, 80, 99, 100, 101, 104, 105, 106, 107, 108, 109, 110, 113, 114, 115, 116, 117, 118, 119, 120, 121, 122, 123, 124, 125, 126, 127], []⟩
def toV12_0 (p : P12_0) (s : S12_0) : List (Vl th.R) := [.i p.x1, .b p.b4, .n p.n30, .i p.x31, .i s.x32, .n p.N0, .o p.O0, .c p.F0_0, .c p.F0_1, .c p.F0_2, .c p.F0_3, .c p.F0_4, .c p.F0_5, .c p.F0_6, .c p.F0_7, .c p.F0_8, .c p.F0_9, .i s.xh1_1, .i s.xh1_2, .r s.R2, .i p.xh3_0, .n s.n7_1, .n s.N4, .c s.F4_0, .c s.F4_1, .c s.F4_2, .c s.F4_3, .c s.F4_4, .c s.F4_5, .c s.F4_6, .c s.F4_7, .c s.F4_8]
def ofV12_0 : List (Vl th.R) → Option (P12_0 × S12_0)
  | .i x1 :: .b b4 :: .n n30 :: .i x31 :: .i x32 :: .n N0 :: .o O0 :: .c F0_0 :: .c F0_1 :: .c F0_2 :: .c F0_3 :: .c F0_4 :: .c F0_5 :: .c F0_6 :: .c F0_7 :: .c F0_8 :: .c F0_9 :: .i xh1_1 :: .i xh1_2 :: .r R2 :: .i xh3_0 :: .n n7_1 :: .n N4 :: .c F4_0 :: .c F4_1 :: .c F4_2 :: .c F4_3 :: .c F4_4 :: .c F4_5 :: .c F4_6 :: .c F4_7 :: .c F4_8 :: [] => some (⟨x1, b4, n30, x31, N0, O0, F0_0, F0_1, F0_2, F0_3, F0_4, F0_5, F0_6, F0_7, F0_8, F0_9, xh3_0⟩, ⟨x32, xh1_1, xh1_2, R2, n7_1, N4, F4_0, F4_1, F4_2, F4_3, F4_4, F4_5, F4_6, F4_7, F4_8⟩)
  | _ => none
noncomputable def e12_0_27 (p : P12_0) (s : S12_0) : (Nat) := (0:Nat) + s.x32.toNat
noncomputable def e12_0_28 (p : P12_0) (s : S12_0) : (Int) := p.F0_0 (e12_0_27 p s)
noncomputable def e12_0_29 (p : P12_0) (s : S12_0) : (Int) := p.F0_1 (e12_0_27 p s)
noncomputable def e12_0_30 (p : P12_0) (s : S12_0) : (Int) := p.F0_2 (e12_0_27 p s)
noncomputable def e12_0_31 (p : P12_0) (s : S12_0) : (Int) := p.F0_3 (e12_0_27 p s)
noncomputable def e12_0_32 (p : P12_0) (s : S12_0) : (Int) := p.F0_4 (e12_0_27 p s)
noncomputable def e12_0_33 (p : P12_0) (s : S12_0) : (Int) := p.F0_5 (e12_0_27 p s)
noncomputable def e12_0_34 (p : P12_0) (s : S12_0) : (Int) := p.F0_6 (e12_0_27 p s)
noncomputable def e12_0_35 (p : P12_0) (s : S12_0) : (Int) := p.F0_7 (e12_0_27 p s)
noncomputable def e12_0_36 (p : P12_0) (s : S12_0) : (Int) := p.F0_8 (e12_0_27 p s)
noncomputable def e12_0_37 (p : P12_0) (s : S12_0) : (Int) := p.F0_9 (e12_0_27 p s)
noncomputable def e12_0_38 (p : P12_0) (s : S12_0) : (Op) := Op.mk (e12_0_28 p s) (e12_0_29 p s) (e12_0_30 p s) (Sl.mk (e12_0_31 p s) (e12_0_32 p s) (e12_0_33 p s) (e12_0_34 p s) (e12_0_35 p s) (e12_0_36 p s) (e12_0_37 p s) (0:Int) (0:Int) (0:Int))
noncomputable def e12_0_39 (p : P12_0) (s : S12_0) : (Bool) := dnE (TS.mk s.R2 s.xh1_1 s.xh1_2) (e12_0_38 p s) != mdR p.xh3_0 (nds (ndf s.F4_0 s.F4_1 s.F4_2 s.F4_3 s.F4_4 s.F4_5 s.F4_6 s.F4_7 s.F4_8) s.n7_1) (e12_0_38 p s)
noncomputable def e12_0_40 (p : P12_0) (s : S12_0) : (Nat) := (mdL p.xh3_0 (nds (ndf s.F4_0 s.F4_1 s.F4_2 s.F4_3 s.F4_4 s.F4_5 s.F4_6 s.F4_7 s.F4_8) s.n7_1) (e12_0_38 p s)).length
noncomputable def e12_0_41 (p : P12_0) (s : S12_0) : (TS) := dnT (TS.mk s.R2 s.xh1_1 s.xh1_2) (e12_0_38 p s)
noncomputable def e12_0_42 (p : P12_0) (s : S12_0) : (Int) := (e12_0_41 p s).f
noncomputable def e12_0_43 (p : P12_0) (s : S12_0) : (Int) := (e12_0_41 p s).c
noncomputable def e12_0_44 (p : P12_0) (s : S12_0) : (Mem) := (e12_0_41 p s).M
noncomputable def e12_0_0 (p : P12_0) (s : S12_0) : (Bool) := cnd (decide (s.x32 < p.x31)) false true
noncomputable def e12_0_1 (p : P12_0) (s : S12_0) : (Prop) := (∀ (i:Nat), scpL (0:Nat) ((rw10 p.F0_0 p.F0_1 p.F0_2 p.F0_3 p.F0_4 p.F0_5 p.F0_6 p.F0_7 p.F0_8 p.F0_9) i) = true) ∧ ∀ (i:Nat), scpL (0:Nat) ((rw9 s.F4_0 s.F4_1 s.F4_2 s.F4_3 s.F4_4 s.F4_5 s.F4_6 s.F4_7 s.F4_8) i) = true
noncomputable def e12_0_2 (p : P12_0) (s : S12_0) : (Prop) := (0:Int) ≤ s.x32 ∧ s.x32 < (↑p.n30:Int)
noncomputable def e12_0_3 (p : P12_0) (s : S12_0) : (Prop) := e12_0_27 p s < p.N0
noncomputable def e12_0_4 (p : P12_0) (s : S12_0) : (Prop) := ∀ (i:Nat), scpL (0:Nat) ((rw9 s.F4_0 s.F4_1 s.F4_2 s.F4_3 s.F4_4 s.F4_5 s.F4_6 s.F4_7 s.F4_8) i) = true
noncomputable def e12_0_5 (p : P12_0) (s : S12_0) : (Prop) := ∀ (i:Nat), i < s.N4 → (rw9 s.F4_0 s.F4_1 s.F4_2 s.F4_3 s.F4_4 s.F4_5 s.F4_6 s.F4_7 s.F4_8) i = elC (rw9 s.F4_0 s.F4_1 s.F4_2 s.F4_3 s.F4_4 s.F4_5 s.F4_6 s.F4_7 s.F4_8) (0:Nat) ck9 i
noncomputable def e12_0_6 (p : P12_0) (s : S12_0) : (Prop) := pre64 (V64.mk p.xh3_0 s.n7_1 (e12_0_28 p s) (e12_0_29 p s) (e12_0_30 p s) (e12_0_31 p s) (e12_0_32 p s) (e12_0_33 p s) (e12_0_34 p s) (e12_0_35 p s) (e12_0_36 p s) (e12_0_37 p s) s.N4 s.F4_0 s.F4_1 s.F4_2 s.F4_3 s.F4_4 s.F4_5 s.F4_6 s.F4_7 s.F4_8)
noncomputable def e12_0_7 (p : P12_0) (s : S12_0) : (Prop) := ∀ (i:Nat), scpL (0:Nat) ((fun (j:Nat) => ndC (gN (mdL p.xh3_0 (nds (ndf s.F4_0 s.F4_1 s.F4_2 s.F4_3 s.F4_4 s.F4_5 s.F4_6 s.F4_7 s.F4_8) s.n7_1) (e12_0_38 p s)) j)) i) = true
noncomputable def e12_0_8 (p : P12_0) (s : S12_0) : (Prop) := pre54 (V54.mk (e12_0_28 p s) (e12_0_29 p s) (e12_0_30 p s) (e12_0_31 p s) (e12_0_32 p s) (e12_0_33 p s) (e12_0_34 p s) (e12_0_35 p s) (e12_0_36 p s) (e12_0_37 p s) s.xh1_1 s.xh1_2 s.R2)
noncomputable def e12_0_9 (p : P12_0) (s : S12_0) : (Prop) := cnd (!e12_0_39 p s) true false = true → (∀ (i:Nat), scpL (0:Nat) ((fun (j:Nat) => ndC (gN (mdL p.xh3_0 (nds (ndf s.F4_0 s.F4_1 s.F4_2 s.F4_3 s.F4_4 s.F4_5 s.F4_6 s.F4_7 s.F4_8) s.n7_1) (e12_0_38 p s)) j)) i) = true) ∧ (∀ (i:Nat), i < e12_0_40 p s → (fun (j:Nat) => ndC (gN (mdL p.xh3_0 (nds (ndf s.F4_0 s.F4_1 s.F4_2 s.F4_3 s.F4_4 s.F4_5 s.F4_6 s.F4_7 s.F4_8) s.n7_1) (e12_0_38 p s)) j)) i = elC (fun (j:Nat) => ndC (gN (mdL p.xh3_0 (nds (ndf s.F4_0 s.F4_1 s.F4_2 s.F4_3 s.F4_4 s.F4_5 s.F4_6 s.F4_7 s.F4_8) s.n7_1) (e12_0_38 p s)) j)) (0:Nat) ck9 i) ∧ pre65 (V65.mk p.xh3_0 (e12_0_40 p s) (e12_0_42 p s) (e12_0_43 p s) (e12_0_40 p s) (fun (j:Nat) => (gN (mdL p.xh3_0 (nds (ndf s.F4_0 s.F4_1 s.F4_2 s.F4_3 s.F4_4 s.F4_5 s.F4_6 s.F4_7 s.F4_8) s.n7_1) (e12_0_38 p s)) j).t) (fun (j:Nat) => (gN (mdL p.xh3_0 (nds (ndf s.F4_0 s.F4_1 s.F4_2 s.F4_3 s.F4_4 s.F4_5 s.F4_6 s.F4_7 s.F4_8) s.n7_1) (e12_0_38 p s)) j).k) (fun (j:Nat) => (gN (mdL p.xh3_0 (nds (ndf s.F4_0 s.F4_1 s.F4_2 s.F4_3 s.F4_4 s.F4_5 s.F4_6 s.F4_7 s.F4_8) s.n7_1) (e12_0_38 p s)) j).a) (fun (j:Nat) => (gN (mdL p.xh3_0 (nds (ndf s.F4_0 s.F4_1 s.F4_2 s.F4_3 s.F4_4 s.F4_5 s.F4_6 s.F4_7 s.F4_8) s.n7_1) (e12_0_38 p s)) j).b) (fun (j:Nat) => (gN (mdL p.xh3_0 (nds (ndf s.F4_0 s.F4_1 s.F4_2 s.F4_3 s.F4_4 s.F4_5 s.F4_6 s.F4_7 s.F4_8) s.n7_1) (e12_0_38 p s)) j).r) (fun (j:Nat) => (gN (mdL p.xh3_0 (nds (ndf s.F4_0 s.F4_1 s.F4_2 s.F4_3 s.F4_4 s.F4_5 s.F4_6 s.F4_7 s.F4_8) s.n7_1) (e12_0_38 p s)) j).g) (fun (j:Nat) => (gN (mdL p.xh3_0 (nds (ndf s.F4_0 s.F4_1 s.F4_2 s.F4_3 s.F4_4 s.F4_5 s.F4_6 s.F4_7 s.F4_8) s.n7_1) (e12_0_38 p s)) j).s) (fun (j:Nat) => (gN (mdL p.xh3_0 (nds (ndf s.F4_0 s.F4_1 s.F4_2 s.F4_3 s.F4_4 s.F4_5 s.F4_6 s.F4_7 s.F4_8) s.n7_1) (e12_0_38 p s)) j).m) (fun (j:Nat) => (gN (mdL p.xh3_0 (nds (ndf s.F4_0 s.F4_1 s.F4_2 s.F4_3 s.F4_4 s.F4_5 s.F4_6 s.F4_7 s.F4_8) s.n7_1) (e12_0_38 p s)) j).d) (e12_0_44 p s)) ∧ ∀ (i:Nat), scpL (0:Nat) ((fun (j:Nat) => ndC (gN (mdL p.xh3_0 (nds (ndf s.F4_0 s.F4_1 s.F4_2 s.F4_3 s.F4_4 s.F4_5 s.F4_6 s.F4_7 s.F4_8) s.n7_1) (e12_0_38 p s)) j)) i) = true
noncomputable def e12_0_10 (p : P12_0) (s : S12_0) : (Bool) := cnd (e12_0_39 p s) true false
noncomputable def e12_0_11 (p : P12_0) (s : S12_0) : (Prop) := (∀ (i:Nat), scpL (0:Nat) ((rw10 p.F0_0 p.F0_1 p.F0_2 p.F0_3 p.F0_4 p.F0_5 p.F0_6 p.F0_7 p.F0_8 p.F0_9) i) = true) ∧ ∀ (i:Nat), scpL (0:Nat) ((fun (j:Nat) => ndC (gN (mdL p.xh3_0 (nds (ndf s.F4_0 s.F4_1 s.F4_2 s.F4_3 s.F4_4 s.F4_5 s.F4_6 s.F4_7 s.F4_8) s.n7_1) (e12_0_38 p s)) j)) i) = true
noncomputable def e12_0_12 (p : P12_0) (s : S12_0) : (Int) := e12_0_42 p s
noncomputable def e12_0_13 (p : P12_0) (s : S12_0) : (Int) := e12_0_43 p s
noncomputable def e12_0_14 (p : P12_0) (s : S12_0) : (Mem) := e12_0_44 p s
noncomputable def e12_0_15 (p : P12_0) (s : S12_0) : (Nat) := e12_0_40 p s
noncomputable def e12_0_16 (p : P12_0) (s : S12_0) : Nat → (Int) := fun (j:Nat) => (gN (mdL p.xh3_0 (nds (ndf s.F4_0 s.F4_1 s.F4_2 s.F4_3 s.F4_4 s.F4_5 s.F4_6 s.F4_7 s.F4_8) s.n7_1) (e12_0_38 p s)) j).t
noncomputable def e12_0_17 (p : P12_0) (s : S12_0) : Nat → (Int) := fun (j:Nat) => (gN (mdL p.xh3_0 (nds (ndf s.F4_0 s.F4_1 s.F4_2 s.F4_3 s.F4_4 s.F4_5 s.F4_6 s.F4_7 s.F4_8) s.n7_1) (e12_0_38 p s)) j).k
noncomputable def e12_0_18 (p : P12_0) (s : S12_0) : Nat → (Int) := fun (j:Nat) => (gN (mdL p.xh3_0 (nds (ndf s.F4_0 s.F4_1 s.F4_2 s.F4_3 s.F4_4 s.F4_5 s.F4_6 s.F4_7 s.F4_8) s.n7_1) (e12_0_38 p s)) j).a
noncomputable def e12_0_19 (p : P12_0) (s : S12_0) : Nat → (Int) := fun (j:Nat) => (gN (mdL p.xh3_0 (nds (ndf s.F4_0 s.F4_1 s.F4_2 s.F4_3 s.F4_4 s.F4_5 s.F4_6 s.F4_7 s.F4_8) s.n7_1) (e12_0_38 p s)) j).b
noncomputable def e12_0_20 (p : P12_0) (s : S12_0) : Nat → (Int) := fun (j:Nat) => (gN (mdL p.xh3_0 (nds (ndf s.F4_0 s.F4_1 s.F4_2 s.F4_3 s.F4_4 s.F4_5 s.F4_6 s.F4_7 s.F4_8) s.n7_1) (e12_0_38 p s)) j).r
noncomputable def e12_0_21 (p : P12_0) (s : S12_0) : Nat → (Int) := fun (j:Nat) => (gN (mdL p.xh3_0 (nds (ndf s.F4_0 s.F4_1 s.F4_2 s.F4_3 s.F4_4 s.F4_5 s.F4_6 s.F4_7 s.F4_8) s.n7_1) (e12_0_38 p s)) j).g
noncomputable def e12_0_22 (p : P12_0) (s : S12_0) : Nat → (Int) := fun (j:Nat) => (gN (mdL p.xh3_0 (nds (ndf s.F4_0 s.F4_1 s.F4_2 s.F4_3 s.F4_4 s.F4_5 s.F4_6 s.F4_7 s.F4_8) s.n7_1) (e12_0_38 p s)) j).s
noncomputable def e12_0_23 (p : P12_0) (s : S12_0) : Nat → (Int) := fun (j:Nat) => (gN (mdL p.xh3_0 (nds (ndf s.F4_0 s.F4_1 s.F4_2 s.F4_3 s.F4_4 s.F4_5 s.F4_6 s.F4_7 s.F4_8) s.n7_1) (e12_0_38 p s)) j).m
noncomputable def e12_0_24 (p : P12_0) (s : S12_0) : Nat → (Int) := fun (j:Nat) => (gN (mdL p.xh3_0 (nds (ndf s.F4_0 s.F4_1 s.F4_2 s.F4_3 s.F4_4 s.F4_5 s.F4_6 s.F4_7 s.F4_8) s.n7_1) (e12_0_38 p s)) j).d
noncomputable def e12_0_25 (p : P12_0) (s : S12_0) : (Prop) := ((∀ (i:Nat), scpL (0:Nat) ((rw10 p.F0_0 p.F0_1 p.F0_2 p.F0_3 p.F0_4 p.F0_5 p.F0_6 p.F0_7 p.F0_8 p.F0_9) i) = true) ∧ ∀ (i:Nat), scpL (0:Nat) ((fun (j:Nat) => ndC (gN (mdL p.xh3_0 (nds (ndf s.F4_0 s.F4_1 s.F4_2 s.F4_3 s.F4_4 s.F4_5 s.F4_6 s.F4_7 s.F4_8) s.n7_1) (e12_0_38 p s)) j)) i) = true) ∧ (∀ (i:Nat), i < p.N0 → (rw10 p.F0_0 p.F0_1 p.F0_2 p.F0_3 p.F0_4 p.F0_5 p.F0_6 p.F0_7 p.F0_8 p.F0_9) i = elC (rw10 p.F0_0 p.F0_1 p.F0_2 p.F0_3 p.F0_4 p.F0_5 p.F0_6 p.F0_7 p.F0_8 p.F0_9) (0:Nat) [Ck.int IntKind.i64, Ck.int IntKind.u64, Ck.int IntKind.u64, Ck.int IntKind.i64, Ck.int IntKind.u64, Ck.int IntKind.i64, Ck.int IntKind.i64, Ck.int IntKind.i64, Ck.int IntKind.i64, Ck.int IntKind.u64] i) ∧ ∀ (i:Nat), i < e12_0_40 p s → (fun (j:Nat) => ndC (gN (mdL p.xh3_0 (nds (ndf s.F4_0 s.F4_1 s.F4_2 s.F4_3 s.F4_4 s.F4_5 s.F4_6 s.F4_7 s.F4_8) s.n7_1) (e12_0_38 p s)) j)) i = elC (fun (j:Nat) => ndC (gN (mdL p.xh3_0 (nds (ndf s.F4_0 s.F4_1 s.F4_2 s.F4_3 s.F4_4 s.F4_5 s.F4_6 s.F4_7 s.F4_8) s.n7_1) (e12_0_38 p s)) j)) (0:Nat) ck9 i
noncomputable def e12_0_26 (p : P12_0) (s : S12_0) : (Int) := IntKind.i64.wrap (s.x32 + (1:Int))
theorem n_e12_0_1 (p : P12_0) (s : S12_0) : e12_0_1 p s := by
  unfold e12_0_1
  (repeat' first | intro _ | apply And.intro) <;> first | rfl | exact absurd (by assumption) (Nat.not_lt_zero _) | omega | decide
theorem n_e12_0_4 (p : P12_0) (s : S12_0) : e12_0_4 p s := by
  unfold e12_0_4
  (repeat' first | intro _ | apply And.intro) <;> first | rfl | exact absurd (by assumption) (Nat.not_lt_zero _) | omega | decide
theorem n_e12_0_5 (p : P12_0) (s : S12_0) : e12_0_5 p s := by
  unfold e12_0_5
  (repeat' first | intro _ | apply And.intro) <;> first | rfl | exact absurd (by assumption) (Nat.not_lt_zero _) | omega | decide
theorem n_e12_0_7 (p : P12_0) (s : S12_0) : e12_0_7 p s := by
  unfold e12_0_7
  (repeat' first | intro _ | apply And.intro) <;> first | rfl | exact absurd (by assumption) (Nat.not_lt_zero _) | omega | decide
theorem n_e12_0_11 (p : P12_0) (s : S12_0) : e12_0_11 p s := by
  unfold e12_0_11
  (repeat' first | intro _ | apply And.intro) <;> first | rfl | exact absurd (by assumption) (Nat.not_lt_zero _) | omega | decide
theorem n_e12_0_25 (p : P12_0) (s : S12_0) : e12_0_25 p s := by
  unfold e12_0_25
  (repeat' first | intro _ | apply And.intro) <;> first | rfl | exact absurd (by assumption) (Nat.not_lt_zero _) | omega | decide
noncomputable def rf12_0 (p : P12_0) (s : S12_0) : Tr (Rs th.R S12_0) := (Tr.ite (e12_0_0 p s) (Tr.need (e12_0_1 p s) (Tr.leaf (Rs.out (Ex.exit (0:Nat)) [none, some (SV.int .u64 (p.x1)), none, none, some (SV.bool (p.b4)), (some (SV.ptr (1:Nat) (0:Nat))), none, (some (SV.ptr (3:Nat) (0:Nat))), none, none, none, none, none, none, none, none, none, none, none, none, none, none, none, none, none, none, none, none, none, none, none, none, none, none, none, none, none, none, none, none, none, none, none, none, none, none, none, none, none, none, none, none, none, none, none, none, none, none, none, none, none, none, none, none, none, none, none, none, none, none, none, none, none, none, none, none, none, none, none, none, none, none, none, none, none, none, none, none, none, none, none, none, none, none, none, none, none, none, none, none, none, none, none, none, none, none, none, none, none, none, none, none, none, none, none, none, none, none, none, none, none, none, none, none, none, none, none, none, none] [(HO.ro (85:Nat) (10:Nat) (p.N0) (rw10 p.F0_0 p.F0_1 p.F0_2 p.F0_3 p.F0_4 p.F0_5 p.F0_6 p.F0_7 p.F0_8 p.F0_9) (p.O0)), (HO.cells (175:Nat) [(SV.ptr (2:Nat) (0:Nat)), SV.int .u64 (s.xh1_1), SV.int .i64 (s.xh1_2)]), HO.res (s.R2), (HO.cells (55:Nat) [SV.int .u64 (p.xh3_0), (SV.slc (4) (9:Nat) (0:Nat) (s.n7_1))]), (HO.row (100:Nat) (9:Nat) (s.N4) (rw9 s.F4_0 s.F4_1 s.F4_2 s.F4_3 s.F4_4 s.F4_5 s.F4_6 s.F4_7 s.F4_8))]))) (Tr.need (e12_0_2 p s) (Tr.need (e12_0_3 p s) (Tr.need (e12_0_4 p s) (Tr.need (e12_0_5 p s) (Tr.need (e12_0_6 p s) (Tr.need (e12_0_7 p s) (Tr.need (e12_0_8 p s) (Tr.need (e12_0_9 p s) (Tr.ite (e12_0_10 p s) (Tr.need (e12_0_11 p s) (Tr.leaf (Rs.out (Ex.ret) [none, some (SV.int .u64 (p.x1)), none, none, some (SV.bool (false)), (some (SV.ptr (1:Nat) (0:Nat))), none, (some (SV.ptr (3:Nat) (0:Nat))), none, none, none, none, none, none, none, none, none, none, none, none, none, none, none, none, none, none, none, none, none, none, none, none, none, none, none, none, none, none, none, none, none, none, none, none, none, none, none, none, none, none, none, none, none, none, none, none, none, none, none, none, none, none, none, none, none, none, none, none, none, none, none, none, none, none, none, none, none, none, none, none, none, none, none, none, none, none, none, none, none, none, none, none, none, none, none, none, none, none, none, none, none, none, none, none, none, none, none, none, none, none, none, none, none, none, none, none, none, none, none, none, none, none, none, none, none, none, none, none, none] [(HO.ro (85:Nat) (10:Nat) (p.N0) (rw10 p.F0_0 p.F0_1 p.F0_2 p.F0_3 p.F0_4 p.F0_5 p.F0_6 p.F0_7 p.F0_8 p.F0_9) (p.O0)), (HO.cells (175:Nat) [(SV.ptr (2:Nat) (0:Nat)), SV.int .u64 (e12_0_12 p s), SV.int .i64 (e12_0_13 p s)]), HO.res (e12_0_14 p s), (HO.cells (55:Nat) [SV.int .u64 (p.xh3_0), (SV.slc (4) (9:Nat) (0:Nat) (e12_0_15 p s))]), (HO.row (100:Nat) (9:Nat) (e12_0_15 p s) (rw9 (e12_0_16 p s) (e12_0_17 p s) (e12_0_18 p s) (e12_0_19 p s) (e12_0_20 p s) (e12_0_21 p s) (e12_0_22 p s) (e12_0_23 p s) (e12_0_24 p s)))]))) (Tr.need (e12_0_25 p s) (Tr.leaf (Rs.on (S12_0.mk ((e12_0_26 p s)) ((e12_0_12 p s)) ((e12_0_13 p s)) ((e12_0_14 p s)) ((e12_0_15 p s)) ((e12_0_15 p s)) ((fun j => (e12_0_16 p s j))) ((fun j => (e12_0_17 p s j))) ((fun j => (e12_0_18 p s j))) ((fun j => (e12_0_19 p s j))) ((fun j => (e12_0_20 p s j))) ((fun j => (e12_0_21 p s j))) ((fun j => (e12_0_22 p s j))) ((fun j => (e12_0_23 p s j))) ((fun j => (e12_0_24 p s j)))))))))))))))))
noncomputable def r12_0 (p : P12_0) (s : S12_0) : Tr (Rs th.R S12_0) := (Tr.ite (e12_0_0 p s) (Tr.leaf (Rs.out (Ex.exit (0:Nat)) [none, some (SV.int .u64 (p.x1)), none, none, some (SV.bool (p.b4)), (some (SV.ptr (1:Nat) (0:Nat))), none, (some (SV.ptr (3:Nat) (0:Nat))), none, none, none, none, none, none, none, none, none, none, none, none, none, none, none, none, none, none, none, none, none, none, none, none, none, none, none, none, none, none, none, none, none, none, none, none, none, none, none, none, none, none, none, none, none, none, none, none, none, none, none, none, none, none, none, none, none, none, none, none, none, none, none, none, none, none, none, none, none, none, none, none, none, none, none, none, none, none, none, none, none, none, none, none, none, none, none, none, none, none, none, none, none, none, none, none, none, none, none, none, none, none, none, none, none, none, none, none, none, none, none, none, none, none, none, none, none, none, none, none, none] [(HO.ro (85:Nat) (10:Nat) (p.N0) (rw10 p.F0_0 p.F0_1 p.F0_2 p.F0_3 p.F0_4 p.F0_5 p.F0_6 p.F0_7 p.F0_8 p.F0_9) (p.O0)), (HO.cells (175:Nat) [(SV.ptr (2:Nat) (0:Nat)), SV.int .u64 (s.xh1_1), SV.int .i64 (s.xh1_2)]), HO.res (s.R2), (HO.cells (55:Nat) [SV.int .u64 (p.xh3_0), (SV.slc (4) (9:Nat) (0:Nat) (s.n7_1))]), (HO.row (100:Nat) (9:Nat) (s.N4) (rw9 s.F4_0 s.F4_1 s.F4_2 s.F4_3 s.F4_4 s.F4_5 s.F4_6 s.F4_7 s.F4_8))])) (Tr.need (e12_0_2 p s) (Tr.need (e12_0_3 p s) (Tr.need (e12_0_6 p s) (Tr.need (e12_0_8 p s) (Tr.need (e12_0_9 p s) (Tr.ite (e12_0_10 p s) (Tr.leaf (Rs.out (Ex.ret) [none, some (SV.int .u64 (p.x1)), none, none, some (SV.bool (false)), (some (SV.ptr (1:Nat) (0:Nat))), none, (some (SV.ptr (3:Nat) (0:Nat))), none, none, none, none, none, none, none, none, none, none, none, none, none, none, none, none, none, none, none, none, none, none, none, none, none, none, none, none, none, none, none, none, none, none, none, none, none, none, none, none, none, none, none, none, none, none, none, none, none, none, none, none, none, none, none, none, none, none, none, none, none, none, none, none, none, none, none, none, none, none, none, none, none, none, none, none, none, none, none, none, none, none, none, none, none, none, none, none, none, none, none, none, none, none, none, none, none, none, none, none, none, none, none, none, none, none, none, none, none, none, none, none, none, none, none, none, none, none, none, none, none] [(HO.ro (85:Nat) (10:Nat) (p.N0) (rw10 p.F0_0 p.F0_1 p.F0_2 p.F0_3 p.F0_4 p.F0_5 p.F0_6 p.F0_7 p.F0_8 p.F0_9) (p.O0)), (HO.cells (175:Nat) [(SV.ptr (2:Nat) (0:Nat)), SV.int .u64 (e12_0_12 p s), SV.int .i64 (e12_0_13 p s)]), HO.res (e12_0_14 p s), (HO.cells (55:Nat) [SV.int .u64 (p.xh3_0), (SV.slc (4) (9:Nat) (0:Nat) (e12_0_15 p s))]), (HO.row (100:Nat) (9:Nat) (e12_0_15 p s) (rw9 (e12_0_16 p s) (e12_0_17 p s) (e12_0_18 p s) (e12_0_19 p s) (e12_0_20 p s) (e12_0_21 p s) (e12_0_22 p s) (e12_0_23 p s) (e12_0_24 p s)))])) (Tr.leaf (Rs.on (S12_0.mk ((e12_0_26 p s)) ((e12_0_12 p s)) ((e12_0_13 p s)) ((e12_0_14 p s)) ((e12_0_15 p s)) ((e12_0_15 p s)) ((fun j => (e12_0_16 p s j))) ((fun j => (e12_0_17 p s j))) ((fun j => (e12_0_18 p s j))) ((fun j => (e12_0_19 p s j))) ((fun j => (e12_0_20 p s j))) ((fun j => (e12_0_21 p s j))) ((fun j => (e12_0_22 p s j))) ((fun j => (e12_0_23 p s j))) ((fun j => (e12_0_24 p s j)))))))))))))
noncomputable def E12_0 : St th.R → Out th := evCode th Try.prog (auto th Try.prog nice12c [] 20) (autoH [] [] [] [] : Hints th) (lpAt Try.prog 12 0)
theorem B12_0 : CodeSound th Try.prog (lpAt Try.prog 12 0) E12_0 := evCode_sound (T := th) (P := Try.prog) (tbl := (auto th Try.prog nice12c [] 20)) (auto_sound (nice := nice12c) (us := []) nok12c 20) (autoH [] [] [] [] : Hints th) _ (LoopsOk_mem (fun _ => rfl) _ fun b hb L hL => by cases hL)
noncomputable def L12_0 : St th.R → Out th := loopL d12_0 ofV12_0 r12_0
theorem h1_12_0 (p : P12_0) (s : S12_0) : bld d12_0.tm (toV12_0 p s) = some (I12_0 p s) := by kernel_rfl
theorem h2_12_0 (l : List (Vl th.R)) (p : P12_0) (s : S12_0) (h : ofV12_0 l = some (p, s)) : l = toV12_0 p s := by
  unfold ofV12_0 at h
  split at h
  · cases h; rfl
  · cases h
theorem h3_12_0 (p : P12_0) (s : S12_0) : cvE d12_0 (E12_0 (I12_0 p s)) = some ((rf12_0 p s).map (Rs.map (toV12_0 p))) := by kernel_rfl
theorem h3g_12_0 (p : P12_0) (s : S12_0) : (rf12_0 p s).get = (r12_0 p s).get := by kernel_rfl
theorem h4_12_0 (p : P12_0) (s s1 : S12_0) : outH d12_0.dirt d12_0.n0 (r12_0 p s) = repH (maskH d12_0.dirt 0 d12_0.n0 (I12_0 p s1).heap) (r12_0 p s) := by kernel_rfl
theorem ls12_0 : CodeSound th Try.prog (.loop (lpAt Try.prog 12 0)) L12_0 := loopL_sound B12_0 d12_0 I12_0 toV12_0 (by kernel_rfl) h1_12_0 h2_12_0
  (fun p s => ⟨(rf12_0 p s).map (Rs.map (toV12_0 p)), h3_12_0 p s, fun h => by
    rw [Tr.map_ok]
    unfold r12_0 at h; unfold rf12_0
    simp only [Tr.ok, n_e12_0_1, n_e12_0_4, n_e12_0_5, n_e12_0_7, n_e12_0_11, n_e12_0_25, true_and, and_true, forall_const, implies_true] at h ⊢
    try exact h, by rw [Tr.map_get, h3g_12_0 p s]⟩) h4_12_0
structure P12_1 where
  x1 : Int
  b4 : Bool
  n55 : Nat
  x56 : Int
  N0 : Nat
  O0 : Obj
  F0_0 : Nat → Int
  F0_1 : Nat → Int
  F0_2 : Nat → Int
  F0_3 : Nat → Int
  F0_4 : Nat → Int
  F0_5 : Nat → Int
  F0_6 : Nat → Int
  F0_7 : Nat → Int
  F0_8 : Nat → Int
  F0_9 : Nat → Int
  xh1_1 : Int
  xh1_2 : Int
  R2 : th.R
  xh3_0 : Int
  nh3_1 : Nat
  N4 : Nat
  F4_0 : Nat → Int
  F4_1 : Nat → Int
  F4_2 : Nat → Int
  F4_3 : Nat → Int
  F4_4 : Nat → Int
  F4_5 : Nat → Int
  F4_6 : Nat → Int
  F4_7 : Nat → Int
  F4_8 : Nat → Int
structure S12_1 where
  x57 : Int
noncomputable instance : Inhabited S12_1 := ⟨⟨0⟩⟩
def I12_1 (p : P12_1) (s : S12_1) : St th.R := ⟨[none, some (.int .u64 p.x1), none, none, some (.bool p.b4), some (.ptr 1 0), none, some (.ptr 3 0), none, none, none, none, none, none, none, none, none, none, none, none, none, none, none, none, none, none, none, none, none, none, none, none, none, none, none, none, none, none, none, none, none, none, none, none, none, none, none, none, none, none, none, none, none, none, none, some (.slc 4 9 0 p.n55), some (.int .i64 p.x56), some (.int .i64 s.x57), none, none, none, none, none, none, none, none, none, none, none, none, none, none, none, none, none, none, none, none, none, none, none, none, none, none, none, none, none, none, none, none, none, none, none, none, none, none, none, none, none, none, none, none, none, none, none, none, none, none, none, none, none, none, none, none, none, none, none, none, none, none, none, none, none, none, none, none, none, none, none], [.ro 85 10 p.N0 (rw10 p.F0_0 p.F0_1 p.F0_2 p.F0_3 p.F0_4 p.F0_5 p.F0_6 p.F0_7 p.F0_8 p.F0_9) p.O0, .cells 175 [.ptr 2 0, .int .u64 p.xh1_1, .int .i64 p.xh1_2], .res p.R2, .cells 55 [.int .u64 p.xh3_0, .slc 4 9 0 p.nh3_1], .row 100 9 p.N4 (rw9 p.F4_0 p.F4_1 p.F4_2 p.F4_3 p.F4_4 p.F4_5 p.F4_6 p.F4_7 p.F4_8)], [], []⟩
def d12_1 : Lp := ⟨⟨129, [(1, .int .u64), (4, .bool), (5, .ptr 1 0), (7, .ptr 3 0), (55, .slc0 4 9), (56, .int .i64), (57, .int .i64)], [.roc 85 [.int .i64, .int .u64, .int .u64, .int .i64, .int .u64, .int .i64, .int .i64, .int .i64, .int .i64, .int .u64], .cells 175 [.ptr 2 0, .int .u64, .int .i64], .res, .cells 55 [.int .u64, .slc0 4 9], .rowc 100 [.int .u64, .int .i64, .int .u64, .int .i64, .int .i64, .int .i64, .int .i64, .int .u64, .int .i64]]⟩, [], 5, [], [1, 4, 5, 7, 99, 100, 101, 104, 105, 106, 107, 108, 109, 110, 113, 114, 115, 116, 117, 118, 119, 120, 121, 122, 123, 124, 125, 126, 127], []⟩
def toV12_1 (p : P12_1) (s : S12_1) : List (Vl th.R) := [.i p.x1, .b p.b4, .n p.n55, .i p.x56, .i s.x57, .n p.N0, .o p.O0, .c p.F0_0, .c p.F0_1, .c p.F0_2, .c p.F0_3, .c p.F0_4, .c p.F0_5, .c p.F0_6, .c p.F0_7, .c p.F0_8, .c p.F0_9, .i p.xh1_1, .i p.xh1_2, .r p.R2, .i p.xh3_0, .n p.nh3_1, .n p.N4, .c p.F4_0, .c p.F4_1, .c p.F4_2, .c p.F4_3, .c p.F4_4, .c p.F4_5, .c p.F4_6, .c p.F4_7, .c p.F4_8]
def ofV12_1 : List (Vl th.R) → Option (P12_1 × S12_1)
  | .i x1 :: .b b4 :: .n n55 :: .i x56 :: .i x57 :: .n N0 :: .o O0 :: .c F0_0 :: .c F0_1 :: .c F0_2 :: .c F0_3 :: .c F0_4 :: .c F0_5 :: .c F0_6 :: .c F0_7 :: .c F0_8 :: .c F0_9 :: .i xh1_1 :: .i xh1_2 :: .r R2 :: .i xh3_0 :: .n nh3_1 :: .n N4 :: .c F4_0 :: .c F4_1 :: .c F4_2 :: .c F4_3 :: .c F4_4 :: .c F4_5 :: .c F4_6 :: .c F4_7 :: .c F4_8 :: [] => some (⟨x1, b4, n55, x56, N0, O0, F0_0, F0_1, F0_2, F0_3, F0_4, F0_5, F0_6, F0_7, F0_8, F0_9, xh1_1, xh1_2, R2, xh3_0, nh3_1, N4, F4_0, F4_1, F4_2, F4_3, F4_4, F4_5, F4_6, F4_7, F4_8⟩, ⟨x57⟩)
  | _ => none
noncomputable def e12_1_17 (p : P12_1) (s : S12_1) : (Nat) := (0:Nat) + s.x57.toNat
noncomputable def e12_1_18 (p : P12_1) (s : S12_1) : (Int) := p.F4_0 (e12_1_17 p s)
noncomputable def e12_1_19 (p : P12_1) (s : S12_1) : (Nat) := (blw p.R2 p.xh1_2 (e12_1_18 p s)).length
noncomputable def e12_1_20 (p : P12_1) (s : S12_1) : (Nat) := (bwL (nds (ndf p.F4_0 p.F4_1 p.F4_2 p.F4_3 p.F4_4 p.F4_5 p.F4_6 p.F4_7 p.F4_8) p.nh3_1) (e12_1_18 p s)).length
noncomputable def e12_1_21 (p : P12_1) (s : S12_1) : (Bool) := !decide (ls (fun (j:Nat) => (blw p.R2 p.xh1_2 (e12_1_18 p s)).getD j (0:Int)) (e12_1_19 p s) = ls (fun (j:Nat) => (bwL (nds (ndf p.F4_0 p.F4_1 p.F4_2 p.F4_3 p.F4_4 p.F4_5 p.F4_6 p.F4_7 p.F4_8) p.nh3_1) (e12_1_18 p s)).getD j (0:Int)) (e12_1_20 p s))
noncomputable def e12_1_0 (p : P12_1) (s : S12_1) : (Bool) := cnd (decide (s.x57 < p.x56)) false true
noncomputable def e12_1_1 (p : P12_1) (s : S12_1) : (Prop) := (∀ (i:Nat), scpL (0:Nat) ((rw10 p.F0_0 p.F0_1 p.F0_2 p.F0_3 p.F0_4 p.F0_5 p.F0_6 p.F0_7 p.F0_8 p.F0_9) i) = true) ∧ ∀ (i:Nat), scpL (0:Nat) ((rw9 p.F4_0 p.F4_1 p.F4_2 p.F4_3 p.F4_4 p.F4_5 p.F4_6 p.F4_7 p.F4_8) i) = true
noncomputable def e12_1_2 (p : P12_1) (s : S12_1) : (Prop) := (0:Int) ≤ s.x57 ∧ s.x57 < (↑p.n55:Int)
noncomputable def e12_1_3 (p : P12_1) (s : S12_1) : (Prop) := e12_1_17 p s < p.N4
noncomputable def e12_1_4 (p : P12_1) (s : S12_1) : (Prop) := ∀ (i:Nat), scpL (0:Nat) ((rw9 p.F4_0 p.F4_1 p.F4_2 p.F4_3 p.F4_4 p.F4_5 p.F4_6 p.F4_7 p.F4_8) i) = true
noncomputable def e12_1_5 (p : P12_1) (s : S12_1) : (Prop) := ∀ (i:Nat), i < p.N4 → (rw9 p.F4_0 p.F4_1 p.F4_2 p.F4_3 p.F4_4 p.F4_5 p.F4_6 p.F4_7 p.F4_8) i = elC (rw9 p.F4_0 p.F4_1 p.F4_2 p.F4_3 p.F4_4 p.F4_5 p.F4_6 p.F4_7 p.F4_8) (0:Nat) ck9 i
noncomputable def e12_1_6 (p : P12_1) (s : S12_1) : (Prop) := pre66 (V66.mk p.xh3_0 p.nh3_1 (e12_1_18 p s) p.N4 p.F4_0 p.F4_1 p.F4_2 p.F4_3 p.F4_4 p.F4_5 p.F4_6 p.F4_7 p.F4_8)
noncomputable def e12_1_7 (p : P12_1) (s : S12_1) : (Prop) := (∀ (i:Nat), scpL (0:Nat) ((rw9 p.F4_0 p.F4_1 p.F4_2 p.F4_3 p.F4_4 p.F4_5 p.F4_6 p.F4_7 p.F4_8) i) = true) ∧ ∀ (i:Nat), scpL (0:Nat) ((fun (j:Nat) => [SV.int IntKind.u64 ((bwL (nds (ndf p.F4_0 p.F4_1 p.F4_2 p.F4_3 p.F4_4 p.F4_5 p.F4_6 p.F4_7 p.F4_8) p.nh3_1) (e12_1_18 p s)).getD j (0:Int))]) i) = true
noncomputable def e12_1_8 (p : P12_1) (s : S12_1) : (Prop) := pre58 (V58.mk (e12_1_18 p s) p.xh1_1 p.xh1_2 p.R2)
noncomputable def e12_1_9 (p : P12_1) (s : S12_1) : (Prop) := ∀ (i:Nat), scpL (0:Nat) ((fun (j:Nat) => [SV.int IntKind.u64 ((blw p.R2 p.xh1_2 (e12_1_18 p s)).getD j (0:Int))]) i) = true
noncomputable def e12_1_10 (p : P12_1) (s : S12_1) : (Prop) := (∀ (i:Nat), scpL (0:Nat) ((fun (j:Nat) => [SV.int IntKind.u64 ((blw p.R2 p.xh1_2 (e12_1_18 p s)).getD j (0:Int))]) i) = true) ∧ ∀ (i:Nat), scpL (0:Nat) ((fun (j:Nat) => [SV.int IntKind.u64 ((bwL (nds (ndf p.F4_0 p.F4_1 p.F4_2 p.F4_3 p.F4_4 p.F4_5 p.F4_6 p.F4_7 p.F4_8) p.nh3_1) (e12_1_18 p s)).getD j (0:Int))]) i) = true
noncomputable def e12_1_11 (p : P12_1) (s : S12_1) : (Prop) := (∀ (i:Nat), i < e12_1_19 p s → (fun (j:Nat) => [SV.int IntKind.u64 ((blw p.R2 p.xh1_2 (e12_1_18 p s)).getD j (0:Int))]) i = elC (fun (j:Nat) => [SV.int IntKind.u64 ((blw p.R2 p.xh1_2 (e12_1_18 p s)).getD j (0:Int))]) (0:Nat) [Ck.int IntKind.u64] i) ∧ ∀ (i:Nat), i < e12_1_20 p s → (fun (j:Nat) => [SV.int IntKind.u64 ((bwL (nds (ndf p.F4_0 p.F4_1 p.F4_2 p.F4_3 p.F4_4 p.F4_5 p.F4_6 p.F4_7 p.F4_8) p.nh3_1) (e12_1_18 p s)).getD j (0:Int))]) i = elC (fun (j:Nat) => [SV.int IntKind.u64 ((bwL (nds (ndf p.F4_0 p.F4_1 p.F4_2 p.F4_3 p.F4_4 p.F4_5 p.F4_6 p.F4_7 p.F4_8) p.nh3_1) (e12_1_18 p s)).getD j (0:Int))]) (0:Nat) [Ck.int IntKind.u64] i
noncomputable def e12_1_12 (p : P12_1) (s : S12_1) : (Prop) := pre62 (V62.mk (e12_1_19 p s) (e12_1_20 p s) (e12_1_19 p s) (fun (j:Nat) => (blw p.R2 p.xh1_2 (e12_1_18 p s)).getD j (0:Int)) (e12_1_20 p s) fun (j:Nat) => (bwL (nds (ndf p.F4_0 p.F4_1 p.F4_2 p.F4_3 p.F4_4 p.F4_5 p.F4_6 p.F4_7 p.F4_8) p.nh3_1) (e12_1_18 p s)).getD j (0:Int))
noncomputable def e12_1_13 (p : P12_1) (s : S12_1) : (Prop) := cnd (!e12_1_21 p s) true false = true → pre60 (V60.mk (e12_1_18 p s) p.xh1_1 p.xh1_2 p.R2)
noncomputable def e12_1_14 (p : P12_1) (s : S12_1) : (Bool) := cnd (e12_1_21 p s) true !brB p.R2 (e12_1_18 p s) == ((↑(e12_1_20 p s):Int) == (0:Int))
noncomputable def e12_1_15 (p : P12_1) (s : S12_1) : (Prop) := ((∀ (i:Nat), scpL (0:Nat) ((rw10 p.F0_0 p.F0_1 p.F0_2 p.F0_3 p.F0_4 p.F0_5 p.F0_6 p.F0_7 p.F0_8 p.F0_9) i) = true) ∧ ∀ (i:Nat), scpL (0:Nat) ((rw9 p.F4_0 p.F4_1 p.F4_2 p.F4_3 p.F4_4 p.F4_5 p.F4_6 p.F4_7 p.F4_8) i) = true) ∧ (∀ (i:Nat), i < p.N0 → (rw10 p.F0_0 p.F0_1 p.F0_2 p.F0_3 p.F0_4 p.F0_5 p.F0_6 p.F0_7 p.F0_8 p.F0_9) i = elC (rw10 p.F0_0 p.F0_1 p.F0_2 p.F0_3 p.F0_4 p.F0_5 p.F0_6 p.F0_7 p.F0_8 p.F0_9) (0:Nat) [Ck.int IntKind.i64, Ck.int IntKind.u64, Ck.int IntKind.u64, Ck.int IntKind.i64, Ck.int IntKind.u64, Ck.int IntKind.i64, Ck.int IntKind.i64, Ck.int IntKind.i64, Ck.int IntKind.i64, Ck.int IntKind.u64] i) ∧ ∀ (i:Nat), i < p.N4 → (rw9 p.F4_0 p.F4_1 p.F4_2 p.F4_3 p.F4_4 p.F4_5 p.F4_6 p.F4_7 p.F4_8) i = elC (rw9 p.F4_0 p.F4_1 p.F4_2 p.F4_3 p.F4_4 p.F4_5 p.F4_6 p.F4_7 p.F4_8) (0:Nat) ck9 i
noncomputable def e12_1_16 (p : P12_1) (s : S12_1) : (Int) := IntKind.i64.wrap (s.x57 + (1:Int))
theorem n_e12_1_1 (p : P12_1) (s : S12_1) : e12_1_1 p s := by
  unfold e12_1_1
  (repeat' first | intro _ | apply And.intro) <;> first | rfl | exact absurd (by assumption) (Nat.not_lt_zero _) | omega | decide
theorem n_e12_1_4 (p : P12_1) (s : S12_1) : e12_1_4 p s := by
  unfold e12_1_4
  (repeat' first | intro _ | apply And.intro) <;> first | rfl | exact absurd (by assumption) (Nat.not_lt_zero _) | omega | decide
theorem n_e12_1_5 (p : P12_1) (s : S12_1) : e12_1_5 p s := by
  unfold e12_1_5
  (repeat' first | intro _ | apply And.intro) <;> first | rfl | exact absurd (by assumption) (Nat.not_lt_zero _) | omega | decide
theorem n_e12_1_7 (p : P12_1) (s : S12_1) : e12_1_7 p s := by
  unfold e12_1_7
  (repeat' first | intro _ | apply And.intro) <;> first | rfl | exact absurd (by assumption) (Nat.not_lt_zero _) | omega | decide
theorem n_e12_1_9 (p : P12_1) (s : S12_1) : e12_1_9 p s := by
  unfold e12_1_9
  (repeat' first | intro _ | apply And.intro) <;> first | rfl | exact absurd (by assumption) (Nat.not_lt_zero _) | omega | decide
theorem n_e12_1_10 (p : P12_1) (s : S12_1) : e12_1_10 p s := by
  unfold e12_1_10
  (repeat' first | intro _ | apply And.intro) <;> first | rfl | exact absurd (by assumption) (Nat.not_lt_zero _) | omega | decide
theorem n_e12_1_11 (p : P12_1) (s : S12_1) : e12_1_11 p s := by
  unfold e12_1_11
  (repeat' first | intro _ | apply And.intro) <;> first | rfl | exact absurd (by assumption) (Nat.not_lt_zero _) | omega | decide
theorem n_e12_1_15 (p : P12_1) (s : S12_1) : e12_1_15 p s := by
  unfold e12_1_15
  (repeat' first | intro _ | apply And.intro) <;> first | rfl | exact absurd (by assumption) (Nat.not_lt_zero _) | omega | decide
noncomputable def rf12_1 (p : P12_1) (s : S12_1) : Tr (Rs th.R S12_1) := (Tr.ite (e12_1_0 p s) (Tr.need (e12_1_1 p s) (Tr.leaf (Rs.out (Ex.exit (2:Nat)) [none, some (SV.int .u64 (p.x1)), none, none, some (SV.bool (p.b4)), (some (SV.ptr (1:Nat) (0:Nat))), none, (some (SV.ptr (3:Nat) (0:Nat))), none, none, none, none, none, none, none, none, none, none, none, none, none, none, none, none, none, none, none, none, none, none, none, none, none, none, none, none, none, none, none, none, none, none, none, none, none, none, none, none, none, none, none, none, none, none, none, none, none, none, none, none, none, none, none, none, none, none, none, none, none, none, none, none, none, none, none, none, none, none, none, none, none, none, none, none, none, none, none, none, none, none, none, none, none, none, none, none, none, none, none, none, none, none, none, none, none, none, none, none, none, none, none, none, none, none, none, none, none, none, none, none, none, none, none, none, none, none, none, none, none] [(HO.ro (85:Nat) (10:Nat) (p.N0) (rw10 p.F0_0 p.F0_1 p.F0_2 p.F0_3 p.F0_4 p.F0_5 p.F0_6 p.F0_7 p.F0_8 p.F0_9) (p.O0)), (HO.cells (175:Nat) [(SV.ptr (2:Nat) (0:Nat)), SV.int .u64 (p.xh1_1), SV.int .i64 (p.xh1_2)]), HO.res (p.R2), (HO.cells (55:Nat) [SV.int .u64 (p.xh3_0), (SV.slc (4:Nat) (9:Nat) (0:Nat) (p.nh3_1))]), (HO.row (100:Nat) (9:Nat) (p.N4) (rw9 p.F4_0 p.F4_1 p.F4_2 p.F4_3 p.F4_4 p.F4_5 p.F4_6 p.F4_7 p.F4_8))]))) (Tr.need (e12_1_2 p s) (Tr.need (e12_1_3 p s) (Tr.need (e12_1_4 p s) (Tr.need (e12_1_5 p s) (Tr.need (e12_1_6 p s) (Tr.need (e12_1_7 p s) (Tr.need (e12_1_8 p s) (Tr.need (e12_1_9 p s) (Tr.need (e12_1_10 p s) (Tr.need (e12_1_11 p s) (Tr.need (e12_1_12 p s) (Tr.need (e12_1_10 p s) (Tr.need (e12_1_13 p s) (Tr.ite (e12_1_14 p s) (Tr.need (e12_1_1 p s) (Tr.leaf (Rs.out (Ex.ret) [none, some (SV.int .u64 (p.x1)), none, none, some (SV.bool (false)), (some (SV.ptr (1:Nat) (0:Nat))), none, (some (SV.ptr (3:Nat) (0:Nat))), none, none, none, none, none, none, none, none, none, none, none, none, none, none, none, none, none, none, none, none, none, none, none, none, none, none, none, none, none, none, none, none, none, none, none, none, none, none, none, none, none, none, none, none, none, none, none, none, none, none, none, none, none, none, none, none, none, none, none, none, none, none, none, none, none, none, none, none, none, none, none, none, none, none, none, none, none, none, none, none, none, none, none, none, none, none, none, none, none, none, none, none, none, none, none, none, none, none, none, none, none, none, none, none, none, none, none, none, none, none, none, none, none, none, none, none, none, none, none, none, none] [(HO.ro (85:Nat) (10:Nat) (p.N0) (rw10 p.F0_0 p.F0_1 p.F0_2 p.F0_3 p.F0_4 p.F0_5 p.F0_6 p.F0_7 p.F0_8 p.F0_9) (p.O0)), (HO.cells (175:Nat) [(SV.ptr (2:Nat) (0:Nat)), SV.int .u64 (p.xh1_1), SV.int .i64 (p.xh1_2)]), HO.res (p.R2), (HO.cells (55:Nat) [SV.int .u64 (p.xh3_0), (SV.slc (4:Nat) (9:Nat) (0:Nat) (p.nh3_1))]), (HO.row (100:Nat) (9:Nat) (p.N4) (rw9 p.F4_0 p.F4_1 p.F4_2 p.F4_3 p.F4_4 p.F4_5 p.F4_6 p.F4_7 p.F4_8))]))) (Tr.need (e12_1_15 p s) (Tr.leaf (Rs.on (S12_1.mk ((e12_1_16 p s)))))))))))))))))))))
noncomputable def r12_1 (p : P12_1) (s : S12_1) : Tr (Rs th.R S12_1) := (Tr.ite (e12_1_0 p s) (Tr.leaf (Rs.out (Ex.exit (2:Nat)) [none, some (SV.int .u64 (p.x1)), none, none, some (SV.bool (p.b4)), (some (SV.ptr (1:Nat) (0:Nat))), none, (some (SV.ptr (3:Nat) (0:Nat))), none, none, none, none, none, none, none, none, none, none, none, none, none, none, none, none, none, none, none, none, none, none, none, none, none, none, none, none, none, none, none, none, none, none, none, none, none, none, none, none, none, none, none, none, none, none, none, none, none, none, none, none, none, none, none, none, none, none, none, none, none, none, none, none, none, none, none, none, none, none, none, none, none, none, none, none, none, none, none, none, none, none, none, none, none, none, none, none, none, none, none, none, none, none, none, none, none, none, none, none, none, none, none, none, none, none, none, none, none, none, none, none, none, none, none, none, none, none, none, none, none] [(HO.ro (85:Nat) (10:Nat) (p.N0) (rw10 p.F0_0 p.F0_1 p.F0_2 p.F0_3 p.F0_4 p.F0_5 p.F0_6 p.F0_7 p.F0_8 p.F0_9) (p.O0)), (HO.cells (175:Nat) [(SV.ptr (2:Nat) (0:Nat)), SV.int .u64 (p.xh1_1), SV.int .i64 (p.xh1_2)]), HO.res (p.R2), (HO.cells (55:Nat) [SV.int .u64 (p.xh3_0), (SV.slc (4:Nat) (9:Nat) (0:Nat) (p.nh3_1))]), (HO.row (100:Nat) (9:Nat) (p.N4) (rw9 p.F4_0 p.F4_1 p.F4_2 p.F4_3 p.F4_4 p.F4_5 p.F4_6 p.F4_7 p.F4_8))])) (Tr.need (e12_1_2 p s) (Tr.need (e12_1_3 p s) (Tr.need (e12_1_6 p s) (Tr.need (e12_1_8 p s) (Tr.need (e12_1_12 p s) (Tr.need (e12_1_13 p s) (Tr.ite (e12_1_14 p s) (Tr.leaf (Rs.out (Ex.ret) [none, some (SV.int .u64 (p.x1)), none, none, some (SV.bool (false)), (some (SV.ptr (1:Nat) (0:Nat))), none, (some (SV.ptr (3:Nat) (0:Nat))), none, none, none, none, none, none, none, none, none, none, none, none, none, none, none, none, none, none, none, none, none, none, none, none, none, none, none, none, none, none, none, none, none, none, none, none, none, none, none, none, none, none, none, none, none, none, none, none, none, none, none, none, none, none, none, none, none, none, none, none, none, none, none, none, none, none, none, none, none, none, none, none, none, none, none, none, none, none, none, none, none, none, none, none, none, none, none, none, none, none, none, none, none, none, none, none, none, none, none, none, none, none, none, none, none, none, none, none, none, none, none, none, none, none, none, none, none, none, none, none, none] [(HO.ro (85:Nat) (10:Nat) (p.N0) (rw10 p.F0_0 p.F0_1 p.F0_2 p.F0_3 p.F0_4 p.F0_5 p.F0_6 p.F0_7 p.F0_8 p.F0_9) (p.O0)), (HO.cells (175:Nat) [(SV.ptr (2:Nat) (0:Nat)), SV.int .u64 (p.xh1_1), SV.int .i64 (p.xh1_2)]), HO.res (p.R2), (HO.cells (55:Nat) [SV.int .u64 (p.xh3_0), (SV.slc (4:Nat) (9:Nat) (0:Nat) (p.nh3_1))]), (HO.row (100:Nat) (9:Nat) (p.N4) (rw9 p.F4_0 p.F4_1 p.F4_2 p.F4_3 p.F4_4 p.F4_5 p.F4_6 p.F4_7 p.F4_8))])) (Tr.leaf (Rs.on (S12_1.mk ((e12_1_16 p s)))))))))))))
noncomputable def E12_1 : St th.R → Out th := evCode th Try.prog (auto th Try.prog nice12c [] 20) (autoH [] [] [] [] : Hints th) (lpAt Try.prog 12 1)
theorem B12_1 : CodeSound th Try.prog (lpAt Try.prog 12 1) E12_1 := evCode_sound (T := th) (P := Try.prog) (tbl := (auto th Try.prog nice12c [] 20)) (auto_sound (nice := nice12c) (us := []) nok12c 20) (autoH [] [] [] [] : Hints th) _ (LoopsOk_mem (fun _ => rfl) _ fun b hb L hL => by cases hL)
noncomputable def L12_1 : St th.R → Out th := loopL d12_1 ofV12_1 r12_1
theorem h1_12_1 (p : P12_1) (s : S12_1) : bld d12_1.tm (toV12_1 p s) = some (I12_1 p s) := by kernel_rfl
theorem h2_12_1 (l : List (Vl th.R)) (p : P12_1) (s : S12_1) (h : ofV12_1 l = some (p, s)) : l = toV12_1 p s := by
  unfold ofV12_1 at h
  split at h
  · cases h; rfl
  · cases h
theorem h3_12_1 (p : P12_1) (s : S12_1) : cvE d12_1 (E12_1 (I12_1 p s)) = some ((rf12_1 p s).map (Rs.map (toV12_1 p))) := by kernel_rfl
theorem h3g_12_1 (p : P12_1) (s : S12_1) : (rf12_1 p s).get = (r12_1 p s).get := by kernel_rfl
theorem h4_12_1 (p : P12_1) (s s1 : S12_1) : outH d12_1.dirt d12_1.n0 (r12_1 p s) = repH (maskH d12_1.dirt 0 d12_1.n0 (I12_1 p s1).heap) (r12_1 p s) := by kernel_rfl
theorem ls12_1 : CodeSound th Try.prog (.loop (lpAt Try.prog 12 1)) L12_1 := loopL_sound B12_1 d12_1 I12_1 toV12_1 (by kernel_rfl) h1_12_1 h2_12_1
  (fun p s => ⟨(rf12_1 p s).map (Rs.map (toV12_1 p)), h3_12_1 p s, fun h => by
    rw [Tr.map_ok]
    unfold r12_1 at h; unfold rf12_1
    simp only [Tr.ok, n_e12_1_1, n_e12_1_4, n_e12_1_5, n_e12_1_7, n_e12_1_9, n_e12_1_10, n_e12_1_11, n_e12_1_15, true_and, and_true, forall_const, implies_true] at h ⊢
    try exact h, by rw [Tr.map_get, h3g_12_1 p s]⟩) h4_12_1
theorem ok12 : LoopsOk th Try.prog (autoH [(9, L12_0), (17, L12_1)] [] [] [] : Hints th) (bodyOf Try.prog 12) := autoH_ok (bs := [lpAt Try.prog 12 0, lpAt Try.prog 12 1]) (by kernel_rfl) fun b hb L hL => by
  simp only [List.mem_cons, List.not_mem_nil, or_false] at hb
  rcases hb with rfl | rfl
  · have e : lookL [(9, L12_0), (17, L12_1)] (firstReg (lpAt Try.prog 12 0)) = some L12_0 := by kernel_rfl
    rw [e] at hL; cases hL
    exact ls12_0
  · have e : lookL [(9, L12_0), (17, L12_1)] (firstReg (lpAt Try.prog 12 1)) = some L12_1 := by kernel_rfl
    rw [e] at hL; cases hL
    exact ls12_1
noncomputable def f12_15 (v : V12) : (Bool) := decide ((↑v.L:Int) > (60:Int))
noncomputable def f12_16 (v : V12) : (P12_0) := P12_0.mk v.x false v.L (↑v.L:Int) v.Q v.ob_ v.ok v.oa v.ob v.kc v.ac v.bc v.rc v.gc v.sc v.mc (65536:Int)
noncomputable def f12_17 (v : V12) : (S12_0) := lastS (r12_0 (f12_16 v)) (S12_0.mk (0:Int) (0:Int) (0:Int) op0.fst.M (0:Nat) (0:Nat) (colI (fun (j:Nat) => []) (0:Nat)) (colI (fun (j:Nat) => []) (1:Nat)) (colI (fun (j:Nat) => []) (2:Nat)) (colI (fun (j:Nat) => []) (3:Nat)) (colI (fun (j:Nat) => []) (4:Nat)) (colI (fun (j:Nat) => []) (5:Nat)) (colI (fun (j:Nat) => []) (6:Nat)) (colI (fun (j:Nat) => []) (7:Nat)) (colI (fun (j:Nat) => []) (8:Nat)))
noncomputable def f12_18 (v : V12) : (Bool) := cnd (e12_0_0 (f12_16 v) (f12_17 v)) false true
noncomputable def f12_19 (v : V12) : (Nat) := (f12_17 v).N4
noncomputable def f12_20 (v : V12) : (Nat) := (f12_17 v).n7_1
noncomputable def f12_21 (v : V12) : (Int) := (↑(f12_20 v):Int)
noncomputable def f12_22 (v : V12) : (Int) := (f12_17 v).xh1_1
noncomputable def f12_23 (v : V12) : (Int) := (f12_17 v).xh1_2
noncomputable def f12_24 (v : V12) : (th.R) := (f12_17 v).R2
noncomputable def f12_25 (v : V12) : (P12_1) := P12_1.mk v.x false (f12_20 v) (f12_21 v) v.Q v.ob_ v.ok v.oa v.ob v.kc v.ac v.bc v.rc v.gc v.sc v.mc (f12_22 v) (f12_23 v) (f12_24 v) (65536:Int) (f12_20 v) (f12_19 v) (f12_17 v).F4_0 (f12_17 v).F4_1 (f12_17 v).F4_2 (f12_17 v).F4_3 (f12_17 v).F4_4 (f12_17 v).F4_5 (f12_17 v).F4_6 (f12_17 v).F4_7 (f12_17 v).F4_8
noncomputable def f12z0 (v : V12) : S12_1 := lastS (r12_1 (f12_25 v)) (S12_1.mk (0:Int))
noncomputable def f12_26 (v : V12) : (Bool) := cnd (e12_1_0 (f12_25 v) (f12z0 v)) false true
noncomputable def f12_27 (v : V12) : (Int) := cnd (v.x.tmod (32:Int) != (0:Int)) (13:Int) (cnd (decide (v.x ≥ (65536:Int))) (12:Int) (0:Int))
noncomputable def f12_28 (v : V12) : (Int) := fnd (nds (ndf (f12_17 v).F4_0 (f12_17 v).F4_1 (f12_17 v).F4_2 (f12_17 v).F4_3 (f12_17 v).F4_4 (f12_17 v).F4_5 (f12_17 v).F4_6 (f12_17 v).F4_7 (f12_17 v).F4_8) (f12_20 v)) v.x
noncomputable def f12_29 (v : V12) : (Bool) := cnd (f12_27 v != (0:Int)) true (decide (f12_28 v < (0:Int)))
noncomputable def f12_30 (v : V12) : (Nat) := (0:Nat) + (f12_28 v).toNat
noncomputable def f12_31 (v : V12) : (Sl) := ld (f12_24 v) v.x
noncomputable def f12_32 (v : V12) : (Bool) := cnd (cnd ((f12_31 v).k == cnd (f12_29 v) (0:Int) ((f12_17 v).F4_1 (f12_30 v)) && ((f12_31 v).a == cnd (f12_29 v) (0:Int) ((f12_17 v).F4_2 (f12_30 v)) && ((f12_31 v).b == cnd (f12_29 v) (0:Int) ((f12_17 v).F4_3 (f12_30 v)) && ((f12_31 v).r == cnd (f12_29 v) (0:Int) ((f12_17 v).F4_4 (f12_30 v)) && ((f12_31 v).g == cnd (f12_29 v) (0:Int) ((f12_17 v).F4_5 (f12_30 v)) && ((f12_31 v).s == cnd (f12_29 v) (0:Int) ((f12_17 v).F4_6 (f12_30 v)) && ((f12_31 v).m == cnd (f12_29 v) (0:Int) ((f12_17 v).F4_7 (f12_30 v)) && true))))))) (ldE (f12_24 v) v.x == cnd (f12_29 v) (f12_27 v) (0:Int)) false) true false
noncomputable def f12_33 (v : V12) : (Nat) := (blw (f12_24 v) (f12_23 v) v.x).length
noncomputable def f12_34 (v : V12) : (Nat) := cnd (f12_32 v) (f12_33 v) (0:Nat)
noncomputable def f12_35 (v : V12) : (Nat) := (bwL (nds (ndf (f12_17 v).F4_0 (f12_17 v).F4_1 (f12_17 v).F4_2 (f12_17 v).F4_3 (f12_17 v).F4_4 (f12_17 v).F4_5 (f12_17 v).F4_6 (f12_17 v).F4_7 (f12_17 v).F4_8) (f12_20 v)) v.x).length
noncomputable def f12_36 (v : V12) : (Nat) := cnd (f12_32 v) (f12_35 v) (0:Nat)
noncomputable def f12_37 (v : V12) : (Bool) := decide (f12_28 v ≥ (0:Int))
noncomputable def f12_0 (v : V12) : (Prop) := pre52 V52.mk
noncomputable def f12_1 (v : V12) : (Prop) := false = false → f12_15 v = false → pre53 V53.mk
noncomputable def f12_2 (v : V12) : (Prop) := false = false → f12_15 v = false → false = false → (∀ (i:Nat), i < v.Q → (rw10 v.ok v.oa v.ob v.kc v.ac v.bc v.rc v.gc v.sc v.mc) i = elC (rw10 v.ok v.oa v.ob v.kc v.ac v.bc v.rc v.gc v.sc v.mc) (0:Nat) [Ck.int IntKind.i64, Ck.int IntKind.u64, Ck.int IntKind.u64, Ck.int IntKind.i64, Ck.int IntKind.u64, Ck.int IntKind.i64, Ck.int IntKind.i64, Ck.int IntKind.i64, Ck.int IntKind.i64, Ck.int IntKind.u64] i) ∧ ∀ (i:Nat), i < (0:Nat) → (fun (j:Nat) => []) i = elC (fun (j:Nat) => []) (0:Nat) ck9 i
noncomputable def f12_3 (v : V12) : (Prop) := false = false → f12_15 v = false → false = false → LT (r12_0 (f12_16 v)) (S12_0.mk (0:Int) (0:Int) (0:Int) op0.fst.M (0:Nat) (0:Nat) (colI (fun (j:Nat) => []) (0:Nat)) (colI (fun (j:Nat) => []) (1:Nat)) (colI (fun (j:Nat) => []) (2:Nat)) (colI (fun (j:Nat) => []) (3:Nat)) (colI (fun (j:Nat) => []) (4:Nat)) (colI (fun (j:Nat) => []) (5:Nat)) (colI (fun (j:Nat) => []) (6:Nat)) (colI (fun (j:Nat) => []) (7:Nat)) (colI (fun (j:Nat) => []) (8:Nat)))
noncomputable def f12_4 (v : V12) : (Prop) := false = false → f12_15 v = false → false = false → f12_18 v = false → (∀ (i:Nat), i < v.Q → (rw10 v.ok v.oa v.ob v.kc v.ac v.bc v.rc v.gc v.sc v.mc) i = elC (rw10 v.ok v.oa v.ob v.kc v.ac v.bc v.rc v.gc v.sc v.mc) (0:Nat) [Ck.int IntKind.i64, Ck.int IntKind.u64, Ck.int IntKind.u64, Ck.int IntKind.i64, Ck.int IntKind.u64, Ck.int IntKind.i64, Ck.int IntKind.i64, Ck.int IntKind.i64, Ck.int IntKind.i64, Ck.int IntKind.u64] i) ∧ ∀ (i:Nat), i < f12_19 v → (fun (j:Nat) => [SV.int IntKind.u64 ((f12_17 v).F4_0 j), SV.int IntKind.i64 ((f12_17 v).F4_1 j), SV.int IntKind.u64 ((f12_17 v).F4_2 j), SV.int IntKind.i64 ((f12_17 v).F4_3 j), SV.int IntKind.i64 ((f12_17 v).F4_4 j), SV.int IntKind.i64 ((f12_17 v).F4_5 j), SV.int IntKind.i64 ((f12_17 v).F4_6 j), SV.int IntKind.u64 ((f12_17 v).F4_7 j), SV.int IntKind.i64 ((f12_17 v).F4_8 j)]) i = elC (fun (j:Nat) => [SV.int IntKind.u64 ((f12_17 v).F4_0 j), SV.int IntKind.i64 ((f12_17 v).F4_1 j), SV.int IntKind.u64 ((f12_17 v).F4_2 j), SV.int IntKind.i64 ((f12_17 v).F4_3 j), SV.int IntKind.i64 ((f12_17 v).F4_4 j), SV.int IntKind.i64 ((f12_17 v).F4_5 j), SV.int IntKind.i64 ((f12_17 v).F4_6 j), SV.int IntKind.u64 ((f12_17 v).F4_7 j), SV.int IntKind.i64 ((f12_17 v).F4_8 j)]) (0:Nat) ck9 i
noncomputable def f12_5 (v : V12) : (Prop) := false = false → f12_15 v = false → false = false → f12_18 v = false → LT (r12_1 (f12_25 v)) (S12_1.mk (0:Int))
noncomputable def f12_6 (v : V12) : (Prop) := false = false → f12_15 v = false → false = false → f12_18 v = false → f12_26 v = false → pre67 (V67.mk v.x (f12_22 v) (f12_23 v) (f12_24 v))
noncomputable def f12_7 (v : V12) : (Prop) := false = false → f12_15 v = false → false = false → f12_18 v = false → f12_26 v = false → ∀ (i:Nat), scpL (0:Nat) ((fun (j:Nat) => [SV.int IntKind.u64 ((f12_17 v).F4_0 j), SV.int IntKind.i64 ((f12_17 v).F4_1 j), SV.int IntKind.u64 ((f12_17 v).F4_2 j), SV.int IntKind.i64 ((f12_17 v).F4_3 j), SV.int IntKind.i64 ((f12_17 v).F4_4 j), SV.int IntKind.i64 ((f12_17 v).F4_5 j), SV.int IntKind.i64 ((f12_17 v).F4_6 j), SV.int IntKind.u64 ((f12_17 v).F4_7 j), SV.int IntKind.i64 ((f12_17 v).F4_8 j)]) i) = true
noncomputable def f12_8 (v : V12) : (Prop) := false = false → f12_15 v = false → false = false → f12_18 v = false → f12_26 v = false → (32:Int) ≠ (0:Int)
noncomputable def f12_9 (v : V12) : (Prop) := false = false → f12_15 v = false → false = false → f12_18 v = false → f12_26 v = false → ∀ (i:Nat), i < f12_19 v → (fun (j:Nat) => [SV.int IntKind.u64 ((f12_17 v).F4_0 j), SV.int IntKind.i64 ((f12_17 v).F4_1 j), SV.int IntKind.u64 ((f12_17 v).F4_2 j), SV.int IntKind.i64 ((f12_17 v).F4_3 j), SV.int IntKind.i64 ((f12_17 v).F4_4 j), SV.int IntKind.i64 ((f12_17 v).F4_5 j), SV.int IntKind.i64 ((f12_17 v).F4_6 j), SV.int IntKind.u64 ((f12_17 v).F4_7 j), SV.int IntKind.i64 ((f12_17 v).F4_8 j)]) i = elC (fun (j:Nat) => [SV.int IntKind.u64 ((f12_17 v).F4_0 j), SV.int IntKind.i64 ((f12_17 v).F4_1 j), SV.int IntKind.u64 ((f12_17 v).F4_2 j), SV.int IntKind.i64 ((f12_17 v).F4_3 j), SV.int IntKind.i64 ((f12_17 v).F4_4 j), SV.int IntKind.i64 ((f12_17 v).F4_5 j), SV.int IntKind.i64 ((f12_17 v).F4_6 j), SV.int IntKind.u64 ((f12_17 v).F4_7 j), SV.int IntKind.i64 ((f12_17 v).F4_8 j)]) (0:Nat) ck9 i
noncomputable def f12_10 (v : V12) : (Prop) := false = false → f12_15 v = false → false = false → f12_18 v = false → f12_26 v = false → pre69 (V69.mk (65536:Int) (f12_20 v) v.x (f12_19 v) (f12_17 v).F4_0 (f12_17 v).F4_1 (f12_17 v).F4_2 (f12_17 v).F4_3 (f12_17 v).F4_4 (f12_17 v).F4_5 (f12_17 v).F4_6 (f12_17 v).F4_7 (f12_17 v).F4_8)
noncomputable def f12_11 (v : V12) : (Prop) := false = false → f12_15 v = false → false = false → f12_18 v = false → f12_26 v = false → f12_29 v = false → (0:Int) ≤ f12_28 v ∧ f12_28 v < f12_21 v
noncomputable def f12_12 (v : V12) : (Prop) := false = false → f12_15 v = false → false = false → f12_18 v = false → f12_26 v = false → f12_29 v = false → f12_30 v < f12_19 v
noncomputable def f12_13 (v : V12) : (Prop) := false = false → f12_15 v = false → false = false → f12_18 v = false → f12_26 v = false → (f12_32 v = true → pre58 (V58.mk v.x (f12_22 v) (f12_23 v) (f12_24 v)) ∧ ∀ (i:Nat), scpL (0:Nat) ((fun (j:Nat) => [SV.int IntKind.u64 ((blw (f12_24 v) (f12_23 v) v.x).getD j (0:Int))]) i) = true) ∧ (f12_32 v = true → (∀ (i:Nat), scpL (0:Nat) ((fun (j:Nat) => [SV.int IntKind.u64 ((f12_17 v).F4_0 j), SV.int IntKind.i64 ((f12_17 v).F4_1 j), SV.int IntKind.u64 ((f12_17 v).F4_2 j), SV.int IntKind.i64 ((f12_17 v).F4_3 j), SV.int IntKind.i64 ((f12_17 v).F4_4 j), SV.int IntKind.i64 ((f12_17 v).F4_5 j), SV.int IntKind.i64 ((f12_17 v).F4_6 j), SV.int IntKind.u64 ((f12_17 v).F4_7 j), SV.int IntKind.i64 ((f12_17 v).F4_8 j)]) i) = true) ∧ (∀ (i:Nat), i < f12_19 v → (fun (j:Nat) => [SV.int IntKind.u64 ((f12_17 v).F4_0 j), SV.int IntKind.i64 ((f12_17 v).F4_1 j), SV.int IntKind.u64 ((f12_17 v).F4_2 j), SV.int IntKind.i64 ((f12_17 v).F4_3 j), SV.int IntKind.i64 ((f12_17 v).F4_4 j), SV.int IntKind.i64 ((f12_17 v).F4_5 j), SV.int IntKind.i64 ((f12_17 v).F4_6 j), SV.int IntKind.u64 ((f12_17 v).F4_7 j), SV.int IntKind.i64 ((f12_17 v).F4_8 j)]) i = elC (fun (j:Nat) => [SV.int IntKind.u64 ((f12_17 v).F4_0 j), SV.int IntKind.i64 ((f12_17 v).F4_1 j), SV.int IntKind.u64 ((f12_17 v).F4_2 j), SV.int IntKind.i64 ((f12_17 v).F4_3 j), SV.int IntKind.i64 ((f12_17 v).F4_4 j), SV.int IntKind.i64 ((f12_17 v).F4_5 j), SV.int IntKind.i64 ((f12_17 v).F4_6 j), SV.int IntKind.u64 ((f12_17 v).F4_7 j), SV.int IntKind.i64 ((f12_17 v).F4_8 j)]) (0:Nat) ck9 i) ∧ pre66 (V66.mk (65536:Int) (f12_20 v) v.x (f12_19 v) (f12_17 v).F4_0 (f12_17 v).F4_1 (f12_17 v).F4_2 (f12_17 v).F4_3 (f12_17 v).F4_4 (f12_17 v).F4_5 (f12_17 v).F4_6 (f12_17 v).F4_7 (f12_17 v).F4_8) ∧ (∀ (i:Nat), scpL (0:Nat) ((fun (j:Nat) => [SV.int IntKind.u64 ((f12_17 v).F4_0 j), SV.int IntKind.i64 ((f12_17 v).F4_1 j), SV.int IntKind.u64 ((f12_17 v).F4_2 j), SV.int IntKind.i64 ((f12_17 v).F4_3 j), SV.int IntKind.i64 ((f12_17 v).F4_4 j), SV.int IntKind.i64 ((f12_17 v).F4_5 j), SV.int IntKind.i64 ((f12_17 v).F4_6 j), SV.int IntKind.u64 ((f12_17 v).F4_7 j), SV.int IntKind.i64 ((f12_17 v).F4_8 j)]) i) = true) ∧ ∀ (i:Nat), scpL (0:Nat) ((fun (j:Nat) => [SV.int IntKind.u64 ((bwL (nds (ndf (f12_17 v).F4_0 (f12_17 v).F4_1 (f12_17 v).F4_2 (f12_17 v).F4_3 (f12_17 v).F4_4 (f12_17 v).F4_5 (f12_17 v).F4_6 (f12_17 v).F4_7 (f12_17 v).F4_8) (f12_20 v)) v.x).getD j (0:Int))]) i) = true) ∧ (f12_32 v = true → ((∀ (i:Nat), scpL (0:Nat) ((fun (j:Nat) => [SV.int IntKind.u64 ((blw (f12_24 v) (f12_23 v) v.x).getD j (0:Int))]) i) = true) ∧ ∀ (i:Nat), scpL (0:Nat) ((fun (j:Nat) => [SV.int IntKind.u64 ((bwL (nds (ndf (f12_17 v).F4_0 (f12_17 v).F4_1 (f12_17 v).F4_2 (f12_17 v).F4_3 (f12_17 v).F4_4 (f12_17 v).F4_5 (f12_17 v).F4_6 (f12_17 v).F4_7 (f12_17 v).F4_8) (f12_20 v)) v.x).getD j (0:Int))]) i) = true) ∧ ((∀ (i:Nat), i < f12_34 v → (fun (j:Nat) => [SV.int IntKind.u64 ((blw (f12_24 v) (f12_23 v) v.x).getD j (0:Int))]) i = elC (fun (j:Nat) => [SV.int IntKind.u64 ((blw (f12_24 v) (f12_23 v) v.x).getD j (0:Int))]) (0:Nat) [Ck.int IntKind.u64] i) ∧ ∀ (i:Nat), i < f12_36 v → (fun (j:Nat) => [SV.int IntKind.u64 ((bwL (nds (ndf (f12_17 v).F4_0 (f12_17 v).F4_1 (f12_17 v).F4_2 (f12_17 v).F4_3 (f12_17 v).F4_4 (f12_17 v).F4_5 (f12_17 v).F4_6 (f12_17 v).F4_7 (f12_17 v).F4_8) (f12_20 v)) v.x).getD j (0:Int))]) i = elC (fun (j:Nat) => [SV.int IntKind.u64 ((bwL (nds (ndf (f12_17 v).F4_0 (f12_17 v).F4_1 (f12_17 v).F4_2 (f12_17 v).F4_3 (f12_17 v).F4_4 (f12_17 v).F4_5 (f12_17 v).F4_6 (f12_17 v).F4_7 (f12_17 v).F4_8) (f12_20 v)) v.x).getD j (0:Int))]) (0:Nat) [Ck.int IntKind.u64] i) ∧ pre62 (V62.mk (f12_33 v) (f12_35 v) (f12_34 v) (fun (j:Nat) => (blw (f12_24 v) (f12_23 v) v.x).getD j (0:Int)) (f12_36 v) fun (j:Nat) => (bwL (nds (ndf (f12_17 v).F4_0 (f12_17 v).F4_1 (f12_17 v).F4_2 (f12_17 v).F4_3 (f12_17 v).F4_4 (f12_17 v).F4_5 (f12_17 v).F4_6 (f12_17 v).F4_7 (f12_17 v).F4_8) (f12_20 v)) v.x).getD j (0:Int)) ∧ (∀ (i:Nat), scpL (0:Nat) ((fun (j:Nat) => [SV.int IntKind.u64 ((blw (f12_24 v) (f12_23 v) v.x).getD j (0:Int))]) i) = true) ∧ ∀ (i:Nat), scpL (0:Nat) ((fun (j:Nat) => [SV.int IntKind.u64 ((bwL (nds (ndf (f12_17 v).F4_0 (f12_17 v).F4_1 (f12_17 v).F4_2 (f12_17 v).F4_3 (f12_17 v).F4_4 (f12_17 v).F4_5 (f12_17 v).F4_6 (f12_17 v).F4_7 (f12_17 v).F4_8) (f12_20 v)) v.x).getD j (0:Int))]) i) = true) ∧ (cnd (cnd (cnd ((f12_31 v).k == cnd (f12_29 v) (0:Int) ((f12_17 v).F4_1 (f12_30 v)) && ((f12_31 v).a == cnd (f12_29 v) (0:Int) ((f12_17 v).F4_2 (f12_30 v)) && ((f12_31 v).b == cnd (f12_29 v) (0:Int) ((f12_17 v).F4_3 (f12_30 v)) && ((f12_31 v).r == cnd (f12_29 v) (0:Int) ((f12_17 v).F4_4 (f12_30 v)) && ((f12_31 v).g == cnd (f12_29 v) (0:Int) ((f12_17 v).F4_5 (f12_30 v)) && ((f12_31 v).s == cnd (f12_29 v) (0:Int) ((f12_17 v).F4_6 (f12_30 v)) && ((f12_31 v).m == cnd (f12_29 v) (0:Int) ((f12_17 v).F4_7 (f12_30 v)) && true))))))) (ldE (f12_24 v) v.x == cnd (f12_29 v) (f12_27 v) (0:Int)) false) (decide (ls (fun (j:Nat) => (blw (f12_24 v) (f12_23 v) v.x).getD j (0:Int)) (f12_33 v) = ls (fun (j:Nat) => (bwL (nds (ndf (f12_17 v).F4_0 (f12_17 v).F4_1 (f12_17 v).F4_2 (f12_17 v).F4_3 (f12_17 v).F4_4 (f12_17 v).F4_5 (f12_17 v).F4_6 (f12_17 v).F4_7 (f12_17 v).F4_8) (f12_20 v)) v.x).getD j (0:Int)) (f12_35 v))) false) true false = true → (∀ (i:Nat), scpL (0:Nat) ((fun (j:Nat) => [SV.int IntKind.u64 ((f12_17 v).F4_0 j), SV.int IntKind.i64 ((f12_17 v).F4_1 j), SV.int IntKind.u64 ((f12_17 v).F4_2 j), SV.int IntKind.i64 ((f12_17 v).F4_3 j), SV.int IntKind.i64 ((f12_17 v).F4_4 j), SV.int IntKind.i64 ((f12_17 v).F4_5 j), SV.int IntKind.i64 ((f12_17 v).F4_6 j), SV.int IntKind.u64 ((f12_17 v).F4_7 j), SV.int IntKind.i64 ((f12_17 v).F4_8 j)]) i) = true) ∧ (∀ (i:Nat), i < f12_19 v → (fun (j:Nat) => [SV.int IntKind.u64 ((f12_17 v).F4_0 j), SV.int IntKind.i64 ((f12_17 v).F4_1 j), SV.int IntKind.u64 ((f12_17 v).F4_2 j), SV.int IntKind.i64 ((f12_17 v).F4_3 j), SV.int IntKind.i64 ((f12_17 v).F4_4 j), SV.int IntKind.i64 ((f12_17 v).F4_5 j), SV.int IntKind.i64 ((f12_17 v).F4_6 j), SV.int IntKind.u64 ((f12_17 v).F4_7 j), SV.int IntKind.i64 ((f12_17 v).F4_8 j)]) i = elC (fun (j:Nat) => [SV.int IntKind.u64 ((f12_17 v).F4_0 j), SV.int IntKind.i64 ((f12_17 v).F4_1 j), SV.int IntKind.u64 ((f12_17 v).F4_2 j), SV.int IntKind.i64 ((f12_17 v).F4_3 j), SV.int IntKind.i64 ((f12_17 v).F4_4 j), SV.int IntKind.i64 ((f12_17 v).F4_5 j), SV.int IntKind.i64 ((f12_17 v).F4_6 j), SV.int IntKind.u64 ((f12_17 v).F4_7 j), SV.int IntKind.i64 ((f12_17 v).F4_8 j)]) (0:Nat) ck9 i) ∧ pre69 (V69.mk (65536:Int) (f12_20 v) v.x (f12_19 v) (f12_17 v).F4_0 (f12_17 v).F4_1 (f12_17 v).F4_2 (f12_17 v).F4_3 (f12_17 v).F4_4 (f12_17 v).F4_5 (f12_17 v).F4_6 (f12_17 v).F4_7 (f12_17 v).F4_8) ∧ ∀ (i:Nat), scpL (0:Nat) ((fun (j:Nat) => [SV.int IntKind.u64 ((f12_17 v).F4_0 j), SV.int IntKind.i64 ((f12_17 v).F4_1 j), SV.int IntKind.u64 ((f12_17 v).F4_2 j), SV.int IntKind.i64 ((f12_17 v).F4_3 j), SV.int IntKind.i64 ((f12_17 v).F4_4 j), SV.int IntKind.i64 ((f12_17 v).F4_5 j), SV.int IntKind.i64 ((f12_17 v).F4_6 j), SV.int IntKind.u64 ((f12_17 v).F4_7 j), SV.int IntKind.i64 ((f12_17 v).F4_8 j)]) i) = true) ∧ (cnd (cnd (cnd ((f12_31 v).k == cnd (f12_29 v) (0:Int) ((f12_17 v).F4_1 (f12_30 v)) && ((f12_31 v).a == cnd (f12_29 v) (0:Int) ((f12_17 v).F4_2 (f12_30 v)) && ((f12_31 v).b == cnd (f12_29 v) (0:Int) ((f12_17 v).F4_3 (f12_30 v)) && ((f12_31 v).r == cnd (f12_29 v) (0:Int) ((f12_17 v).F4_4 (f12_30 v)) && ((f12_31 v).g == cnd (f12_29 v) (0:Int) ((f12_17 v).F4_5 (f12_30 v)) && ((f12_31 v).s == cnd (f12_29 v) (0:Int) ((f12_17 v).F4_6 (f12_30 v)) && ((f12_31 v).m == cnd (f12_29 v) (0:Int) ((f12_17 v).F4_7 (f12_30 v)) && true))))))) (ldE (f12_24 v) v.x == cnd (f12_29 v) (f12_27 v) (0:Int)) false) (decide (ls (fun (j:Nat) => (blw (f12_24 v) (f12_23 v) v.x).getD j (0:Int)) (f12_33 v) = ls (fun (j:Nat) => (bwL (nds (ndf (f12_17 v).F4_0 (f12_17 v).F4_1 (f12_17 v).F4_2 (f12_17 v).F4_3 (f12_17 v).F4_4 (f12_17 v).F4_5 (f12_17 v).F4_6 (f12_17 v).F4_7 (f12_17 v).F4_8) (f12_20 v)) v.x).getD j (0:Int)) (f12_35 v))) false) (cnd (!f12_37 v) true false) false = true → pre59 (V59.mk v.x (f12_22 v) (f12_23 v) (f12_24 v))) ∧ (cnd (cnd (cnd ((f12_31 v).k == cnd (f12_29 v) (0:Int) ((f12_17 v).F4_1 (f12_30 v)) && ((f12_31 v).a == cnd (f12_29 v) (0:Int) ((f12_17 v).F4_2 (f12_30 v)) && ((f12_31 v).b == cnd (f12_29 v) (0:Int) ((f12_17 v).F4_3 (f12_30 v)) && ((f12_31 v).r == cnd (f12_29 v) (0:Int) ((f12_17 v).F4_4 (f12_30 v)) && ((f12_31 v).g == cnd (f12_29 v) (0:Int) ((f12_17 v).F4_5 (f12_30 v)) && ((f12_31 v).s == cnd (f12_29 v) (0:Int) ((f12_17 v).F4_6 (f12_30 v)) && ((f12_31 v).m == cnd (f12_29 v) (0:Int) ((f12_17 v).F4_7 (f12_30 v)) && true))))))) (ldE (f12_24 v) v.x == cnd (f12_29 v) (f12_27 v) (0:Int)) false) (decide (ls (fun (j:Nat) => (blw (f12_24 v) (f12_23 v) v.x).getD j (0:Int)) (f12_33 v) = ls (fun (j:Nat) => (bwL (nds (ndf (f12_17 v).F4_0 (f12_17 v).F4_1 (f12_17 v).F4_2 (f12_17 v).F4_3 (f12_17 v).F4_4 (f12_17 v).F4_5 (f12_17 v).F4_6 (f12_17 v).F4_7 (f12_17 v).F4_8) (f12_20 v)) v.x).getD j (0:Int)) (f12_35 v))) false) (cnd (!f12_37 v) (cnd (dpE (f12_24 v) v.x == (-1:Int)) true false) false) false = true → pre60 (V60.mk v.x (f12_22 v) (f12_23 v) (f12_24 v)))
noncomputable def f12_14 (v : V12) : (Bool) := cnd (f12_15 v) true (cnd (f12_18 v) false (cnd (f12_26 v) false (cnd (cnd (cnd ((f12_31 v).k == cnd (f12_29 v) (0:Int) ((f12_17 v).F4_1 (f12_30 v)) && ((f12_31 v).a == cnd (f12_29 v) (0:Int) ((f12_17 v).F4_2 (f12_30 v)) && ((f12_31 v).b == cnd (f12_29 v) (0:Int) ((f12_17 v).F4_3 (f12_30 v)) && ((f12_31 v).r == cnd (f12_29 v) (0:Int) ((f12_17 v).F4_4 (f12_30 v)) && ((f12_31 v).g == cnd (f12_29 v) (0:Int) ((f12_17 v).F4_5 (f12_30 v)) && ((f12_31 v).s == cnd (f12_29 v) (0:Int) ((f12_17 v).F4_6 (f12_30 v)) && ((f12_31 v).m == cnd (f12_29 v) (0:Int) ((f12_17 v).F4_7 (f12_30 v)) && true))))))) (ldE (f12_24 v) v.x == cnd (f12_29 v) (f12_27 v) (0:Int)) false) (decide (ls (fun (j:Nat) => (blw (f12_24 v) (f12_23 v) v.x).getD j (0:Int)) (f12_33 v) = ls (fun (j:Nat) => (bwL (nds (ndf (f12_17 v).F4_0 (f12_17 v).F4_1 (f12_17 v).F4_2 (f12_17 v).F4_3 (f12_17 v).F4_4 (f12_17 v).F4_5 (f12_17 v).F4_6 (f12_17 v).F4_7 (f12_17 v).F4_8) (f12_20 v)) v.x).getD j (0:Int)) (f12_35 v))) false) (cnd (f12_37 v) true (cnd (dpE (f12_24 v) v.x == (-1:Int)) (brB (f12_24 v) v.x) false)) false)))
theorem n_f12_2 (v : V12) : f12_2 v := by
  unfold f12_2
  (repeat' first | intro _ | apply And.intro) <;> first | rfl | exact absurd (by assumption) (Nat.not_lt_zero _) | omega | decide
theorem n_f12_4 (v : V12) : f12_4 v := by
  unfold f12_4
  (repeat' first | intro _ | apply And.intro) <;> first | rfl | exact absurd (by assumption) (Nat.not_lt_zero _) | omega | decide
theorem n_f12_7 (v : V12) : f12_7 v := by
  unfold f12_7
  (repeat' first | intro _ | apply And.intro) <;> first | rfl | exact absurd (by assumption) (Nat.not_lt_zero _) | omega | decide
theorem n_f12_8 (v : V12) : f12_8 v := by
  unfold f12_8
  (repeat' first | intro _ | apply And.intro) <;> first | rfl | exact absurd (by assumption) (Nat.not_lt_zero _) | omega | decide
theorem n_f12_9 (v : V12) : f12_9 v := by
  unfold f12_9
  (repeat' first | intro _ | apply And.intro) <;> first | rfl | exact absurd (by assumption) (Nat.not_lt_zero _) | omega | decide
noncomputable def ff12 (v : V12) : Tr (Fin th.R) := (Tr.need (f12_0 v) (Tr.need (f12_1 v) (Tr.need (f12_2 v) (Tr.need (f12_3 v) (Tr.need (f12_4 v) (Tr.need (f12_5 v) (Tr.need (f12_6 v) (Tr.need (f12_7 v) (Tr.need (f12_7 v) (Tr.need (f12_8 v) (Tr.need (f12_7 v) (Tr.need (f12_7 v) (Tr.need (f12_9 v) (Tr.need (f12_10 v) (Tr.need (f12_7 v) (Tr.need (f12_11 v) (Tr.need (f12_12 v) (Tr.need (f12_7 v) (Tr.need (f12_13 v) (Tr.leaf (SV.bool (f12_14 v), [(HO.ro (85:Nat) (10:Nat) (v.Q) (rw10 v.ok v.oa v.ob v.kc v.ac v.bc v.rc v.gc v.sc v.mc) (v.ob_))], List.nil)))))))))))))))))))))
noncomputable def f12 (v : V12) : Tr (Fin th.R) := (Tr.need (f12_0 v) (Tr.need (f12_1 v) (Tr.need (f12_3 v) (Tr.need (f12_5 v) (Tr.need (f12_6 v) (Tr.need (f12_10 v) (Tr.need (f12_11 v) (Tr.need (f12_12 v) (Tr.need (f12_13 v) (Tr.leaf (SV.bool (f12_14 v), [(HO.ro (85:Nat) (10:Nat) (v.Q) (fun j => [SV.int .i64 (v.ok j), SV.int .u64 (v.oa j), SV.int .u64 (v.ob j), SV.int .i64 (v.kc j), SV.int .u64 (v.ac j), SV.int .i64 (v.bc j), SV.int .i64 (v.rc j), SV.int .i64 (v.gc j), SV.int .i64 (v.sc j), SV.int .u64 (v.mc j)]) (v.ob_))], [])))))))))))
noncomputable def C12 : CF th.R := fnC d12 ofV12 (f12 )
theorem q12 (v : V12) : (evFn th Try.prog (auto th Try.prog nice12c [] 20) (autoH [(9, L12_0), (17, L12_1)] [] [] [] : Hints th) 12) (A12 v) (H12 v) = some (ff12 v) := by kernel_rfl
theorem qg12 (v : V12) : ((ff12 v).map (setD [])).get = (f12 v).get := by kernel_rfl
theorem qd12 (v : V12) : allD 1 [] (ff12 v) = true := by kernel_rfl
theorem s12 : Sound Try.prog th 12 (C12 ) := fnC_sound (evFn_sound' (T := th) (P := Try.prog) (tbl := (auto th Try.prog nice12c [] 20)) (auto_sound (nice := nice12c) (us := []) nok12c 20) (H := (autoH [(9, L12_0), (17, L12_1)] [] [] [] : Hints th)) (k := 12) (fnLoops ok12)) d12 A12 H12 toV12 (by kernel_rfl) (fun v => by kernel_rfl)
  (fun l v h => by
    unfold ofV12 at h
    split at h
    · cases h; rfl
    · cases h)
  [] (fun v => ⟨ff12 v, q12 v, fun h => by
    unfold f12 at h; unfold ff12
    simp only [Tr.ok, n_f12_2, n_f12_4, n_f12_7, n_f12_8, n_f12_9, true_and, and_true, forall_const, implies_true] at h ⊢
    try exact h, qg12 v, qd12 v⟩)
theorem qdd12 (v : V12) : (f12 v).get.2.2 = [] := by
  rw [← qg12, Tr.map_get]; rfl
set_option maxRecDepth 100000
structure S114_0 where
  x26 : Int
  R2 : th.R
  n6_1 : Nat
  xh4_1 : Int
  xh4_2 : Int
  N5 : Nat
  F5_0 : Nat → Int
  F5_1 : Nat → Int
  F5_2 : Nat → Int
  F5_3 : Nat → Int
  F5_4 : Nat → Int
  F5_5 : Nat → Int
  F5_6 : Nat → Int
  F5_7 : Nat → Int
  F5_8 : Nat → Int
noncomputable instance : Inhabited S114_0 := ⟨⟨0, dR, 0, 0, 0, 0, fun _ => 0, fun _ => 0, fun _ => 0, fun _ => 0, fun _ => 0, fun _ => 0, fun _ => 0, fun _ => 0, fun _ => 0⟩⟩
set_option maxRecDepth 100000
set_option maxRecDepth 100000
set_option maxRecDepth 100000
set_option maxRecDepth 100000
structure V47 where
  k : Int
  a : Int
  b : Int
  r : Int
  g : Int
  s : Int
  m : Int
  x : Int
noncomputable def f47_9 (v : V47) : (Bool) := !f45_1 v.k v.a v.b v.r v.g v.s v.m
noncomputable def f47_10 (v : V47) : (Bool) := cnd (v.k == (9:Int)) (v.m != (0:Int)) false
noncomputable def f47_11 (v : V47) : (Int) := cnd (v.k == (9:Int)) v.k (cnd (v.k == (2:Int)) v.k v.k)
noncomputable def f47_12 (v : V47) : (Int) := cnd (v.k == (9:Int)) v.a (cnd (v.k == (2:Int)) v.a v.a)
noncomputable def f47_13 (v : V47) : (Int) := cnd (v.k == (9:Int)) v.b (cnd (v.k == (2:Int)) v.b v.b)
noncomputable def f47_14 (v : V47) : (Int) := cnd (v.k == (9:Int)) v.r (cnd (v.k == (2:Int)) v.r v.r)
noncomputable def f47_15 (v : V47) : (Int) := cnd (v.k == (9:Int)) v.g (cnd (v.k == (2:Int)) (IntKind.i64.wrap (Go.bits Go.BinOp.and IntKind.u64 v.x (63:Int))) v.g)
noncomputable def f47_16 (v : V47) : (Int) := cnd (v.k == (9:Int)) v.s (cnd (v.k == (2:Int)) v.s v.s)
noncomputable def f47_17 (v : V47) : (Int) := cnd (v.k == (9:Int)) v.x (cnd (v.k == (2:Int)) (v.x.fdiv (64:Int)) v.m)
noncomputable def f47_1 (v : V47) : (Int) := cnd (f47_9 v) (0:Int) (cnd (f47_10 v) (0:Int) (cnd (cnd (v.k == (9:Int)) false (cnd (v.k == (2:Int)) false (v.x != (0:Int)))) (0:Int) (cnd (!f45_1 (f47_11 v) (f47_12 v) (f47_13 v) (f47_14 v) (f47_15 v) (f47_16 v) (f47_17 v)) (0:Int) (f47_11 v))))
noncomputable def f47_2 (v : V47) : (Int) := cnd (f47_9 v) (0:Int) (cnd (f47_10 v) (0:Int) (cnd (cnd (v.k == (9:Int)) false (cnd (v.k == (2:Int)) false (v.x != (0:Int)))) (0:Int) (cnd (!f45_1 (f47_11 v) (f47_12 v) (f47_13 v) (f47_14 v) (f47_15 v) (f47_16 v) (f47_17 v)) (0:Int) (f47_12 v))))
noncomputable def f47_3 (v : V47) : (Int) := cnd (f47_9 v) (0:Int) (cnd (f47_10 v) (0:Int) (cnd (cnd (v.k == (9:Int)) false (cnd (v.k == (2:Int)) false (v.x != (0:Int)))) (0:Int) (cnd (!f45_1 (f47_11 v) (f47_12 v) (f47_13 v) (f47_14 v) (f47_15 v) (f47_16 v) (f47_17 v)) (0:Int) (f47_13 v))))
noncomputable def f47_4 (v : V47) : (Int) := cnd (f47_9 v) (0:Int) (cnd (f47_10 v) (0:Int) (cnd (cnd (v.k == (9:Int)) false (cnd (v.k == (2:Int)) false (v.x != (0:Int)))) (0:Int) (cnd (!f45_1 (f47_11 v) (f47_12 v) (f47_13 v) (f47_14 v) (f47_15 v) (f47_16 v) (f47_17 v)) (0:Int) (f47_14 v))))
noncomputable def f47_5 (v : V47) : (Int) := cnd (f47_9 v) (0:Int) (cnd (f47_10 v) (0:Int) (cnd (cnd (v.k == (9:Int)) false (cnd (v.k == (2:Int)) false (v.x != (0:Int)))) (0:Int) (cnd (!f45_1 (f47_11 v) (f47_12 v) (f47_13 v) (f47_14 v) (f47_15 v) (f47_16 v) (f47_17 v)) (0:Int) (f47_15 v))))
noncomputable def f47_6 (v : V47) : (Int) := cnd (f47_9 v) (0:Int) (cnd (f47_10 v) (0:Int) (cnd (cnd (v.k == (9:Int)) false (cnd (v.k == (2:Int)) false (v.x != (0:Int)))) (0:Int) (cnd (!f45_1 (f47_11 v) (f47_12 v) (f47_13 v) (f47_14 v) (f47_15 v) (f47_16 v) (f47_17 v)) (0:Int) (f47_16 v))))
noncomputable def f47_7 (v : V47) : (Int) := cnd (f47_9 v) (0:Int) (cnd (f47_10 v) (0:Int) (cnd (cnd (v.k == (9:Int)) false (cnd (v.k == (2:Int)) false (v.x != (0:Int)))) (0:Int) (cnd (!f45_1 (f47_11 v) (f47_12 v) (f47_13 v) (f47_14 v) (f47_15 v) (f47_16 v) (f47_17 v)) (0:Int) (f47_17 v))))
set_option maxRecDepth 100000
set_option maxRecDepth 100000
set_option maxRecDepth 100000
noncomputable def mkC (z : Sl) (x:Int) : Sl := ⟨f47_1 ⟨z.k, z.a, z.b, z.r, z.g, z.s, z.m, x⟩, f47_2 ⟨z.k, z.a, z.b, z.r, z.g, z.s, z.m, x⟩, f47_3 ⟨z.k, z.a, z.b, z.r, z.g, z.s, z.m, x⟩, f47_4 ⟨z.k, z.a, z.b, z.r, z.g, z.s, z.m, x⟩,
  f47_5 ⟨z.k, z.a, z.b, z.r, z.g, z.s, z.m, x⟩, f47_6 ⟨z.k, z.a, z.b, z.r, z.g, z.s, z.m, x⟩, f47_7 ⟨z.k, z.a, z.b, z.r, z.g, z.s, z.m, x⟩, 0, 0, 0⟩
def selS (c : Bool) (A B : Sl) : Sl := ⟨cnd c A.k B.k, cnd c A.a B.a, cnd c A.b B.b, cnd c A.r B.r, cnd c A.g B.g, cnd c A.s B.s, cnd c A.m B.m, 0, 0, 0⟩
end Go.Sx.M

