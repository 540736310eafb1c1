/- Contracts of the functions of this seat, each by the executor and the kernel; part 5. Their conditions stand in each. -/
import Derived.Test.YtoldganbhlgboaaC4
set_option linter.unusedVariables false
set_option linter.unusedSimpArgs false
set_option linter.unnecessarySimpa false
namespace Go.Sx.M
open Go Go.Sx Go.Proofs Go.RowKit
set_option maxRecDepth 100000
structure V62 where
  L : Nat
  K : Nat
  Q : Nat
  p : Nat → Int
  N : Nat
  q : Nat → Int
def A62 (v : V62) : List SV := [.slc 0 1 0 v.L, .slc 1 1 0 v.K]
def H62 (v : V62) : List (HO th.R) := [.row 22 1 v.Q (fun j => [.int .u64 (v.p j)]), .row 22 1 v.N (fun j => [.int .u64 (v.q j)])]
def toV62 (v : V62) : List (Vl th.R) := [.n v.L, .n v.K, .n v.Q, .c v.p, .n v.N, .c v.q]
def ofV62 : List (Vl th.R) → Option V62
  | [.n L, .n K, .n Q, .c p, .n N, .c q] => some ⟨L, K, Q, p, N, q⟩
  | _ => none
def d62 : Ft := ⟨[.slc0 0 1, .slc0 1 1], [.rowc 22 [.int .u64], .rowc 22 [.int .u64]]⟩
structure P62_0 where
  n0 : Nat
  n1 : Nat
  b4 : Bool
  x12 : Int
  N0 : Nat
  F0_0 : Nat → Int
  N1 : Nat
  F1_0 : Nat → Int
structure S62_0 where
  x13 : Int
noncomputable instance : Inhabited S62_0 := ⟨⟨0⟩⟩
def I62_0 (p : P62_0) (s : S62_0) : St th.R := ⟨[some (.slc 0 1 0 p.n0), some (.slc 1 1 0 p.n1), none, none, some (.bool p.b4), none, none, none, none, none, none, none, some (.int .i64 p.x12), some (.int .i64 s.x13), none, none, none, none, none, none, none, none, none, none, none, none], [.row 22 1 p.N0 (fun j => [.int .u64 (p.F0_0 j)]), .row 22 1 p.N1 (fun j => [.int .u64 (p.F1_0 j)])], [], []⟩
def d62_0 : Lp := ⟨⟨26, [(0, .slc0 0 1), (1, .slc0 1 1), (4, .bool), (12, .int .i64), (13, .int .i64)], [.rowc 22 [.int .u64], .rowc 22 [.int .u64]]⟩, [], 2, [], [4], []⟩
def toV62_0 (p : P62_0) (s : S62_0) : List (Vl th.R) := [.n p.n0, .n p.n1, .b p.b4, .i p.x12, .i s.x13, .n p.N0, .c p.F0_0, .n p.N1, .c p.F1_0]
def ofV62_0 : List (Vl th.R) → Option (P62_0 × S62_0)
  | [.n n0, .n n1, .b b4, .i x12, .i x13, .n N0, .c F0_0, .n N1, .c F1_0] => some (⟨n0, n1, b4, x12, N0, F0_0, N1, F1_0⟩, ⟨x13⟩)
  | _ => none
noncomputable def e62_0_6 (p : P62_0) (s : S62_0) : (Nat) := (0:Nat) + s.x13.toNat
noncomputable def e62_0_0 (p : P62_0) (s : S62_0) : (Bool) := cnd (decide (s.x13 < p.x12)) false true
noncomputable def e62_0_1 (p : P62_0) (s : S62_0) : (Prop) := (∀ (i:Nat), scpL (0:Nat) ((fun (j:Nat) => [SV.int IntKind.u64 (p.F0_0 j)]) i) = true) ∧ ∀ (i:Nat), scpL (0:Nat) ((fun (j:Nat) => [SV.int IntKind.u64 (p.F1_0 j)]) i) = true
noncomputable def e62_0_2 (p : P62_0) (s : S62_0) : (Prop) := (true = true → (0:Int) ≤ s.x13 ∧ s.x13 < (↑p.n0:Int)) ∧ (true = true → e62_0_6 p s < p.N0) ∧ (true = true → (0:Int) ≤ s.x13 ∧ s.x13 < (↑p.n1:Int)) ∧ (true = true → e62_0_6 p s < p.N1)
noncomputable def e62_0_3 (p : P62_0) (s : S62_0) : (Bool) := p.F0_0 (e62_0_6 p s) != p.F1_0 (e62_0_6 p s)
noncomputable def e62_0_4 (p : P62_0) (s : S62_0) : (Prop) := ((∀ (i:Nat), scpL (0:Nat) ((fun (j:Nat) => [SV.int IntKind.u64 (p.F0_0 j)]) i) = true) ∧ ∀ (i:Nat), scpL (0:Nat) ((fun (j:Nat) => [SV.int IntKind.u64 (p.F1_0 j)]) i) = true) ∧ (∀ (i:Nat), i < p.N0 → (fun (j:Nat) => [SV.int IntKind.u64 (p.F0_0 j)]) i = elC (fun (j:Nat) => [SV.int IntKind.u64 (p.F0_0 j)]) (0:Nat) [Ck.int IntKind.u64] i) ∧ ∀ (i:Nat), i < p.N1 → (fun (j:Nat) => [SV.int IntKind.u64 (p.F1_0 j)]) i = elC (fun (j:Nat) => [SV.int IntKind.u64 (p.F1_0 j)]) (0:Nat) [Ck.int IntKind.u64] i
noncomputable def e62_0_5 (p : P62_0) (s : S62_0) : (Int) := IntKind.i64.wrap (s.x13 + (1:Int))
theorem n_e62_0_1 (p : P62_0) (s : S62_0) : e62_0_1 p s := by
  unfold e62_0_1
  (repeat' first | intro _ | apply And.intro) <;> first | rfl | exact absurd (by assumption) (Nat.not_lt_zero _) | exact scpL_rowSet (by rfl) (by rfl) | exact scpL_rowEl (by kernel_rfl) _ | omega | decide
theorem n_e62_0_4 (p : P62_0) (s : S62_0) : e62_0_4 p s := by
  unfold e62_0_4
  (repeat' first | intro _ | apply And.intro) <;> first | rfl | exact absurd (by assumption) (Nat.not_lt_zero _) | exact scpL_rowSet (by rfl) (by rfl) | exact scpL_rowEl (by kernel_rfl) _ | omega | decide
noncomputable def rf62_0 (p : P62_0) (s : S62_0) : Tr (Rs th.R S62_0) := (Tr.ite (e62_0_0 p s) (Tr.need (e62_0_1 p s) (Tr.leaf (Rs.out (Ex.exit (0:Nat)) [none, none, none, none, some (SV.bool (p.b4)), none, none, none, none, none, none, none, none, none, none, none, none, none, none, none, none, none, none, none, none, none] [(HO.row (22:Nat) (1:Nat) (p.N0) (fun j => [SV.int .u64 (p.F0_0 j)])), (HO.row (22:Nat) (1:Nat) (p.N1) (fun j => [SV.int .u64 (p.F1_0 j)]))]))) (Tr.need (e62_0_2 p s) (Tr.ite (e62_0_3 p s) (Tr.need (e62_0_1 p s) (Tr.leaf (Rs.out (Ex.ret) [none, none, none, none, some (SV.bool (false)), none, none, none, none, none, none, none, none, none, none, none, none, none, none, none, none, none, none, none, none, none] [(HO.row (22:Nat) (1:Nat) (p.N0) (fun j => [SV.int .u64 (p.F0_0 j)])), (HO.row (22:Nat) (1:Nat) (p.N1) (fun j => [SV.int .u64 (p.F1_0 j)]))]))) (Tr.need (e62_0_4 p s) (Tr.leaf (Rs.on (S62_0.mk ((e62_0_5 p s)))))))))
noncomputable def r62_0 (p : P62_0) (s : S62_0) : Tr (Rs th.R S62_0) := (Tr.ite (e62_0_0 p s) (Tr.leaf (Rs.out (Ex.exit (0:Nat)) [none, none, none, none, some (SV.bool (p.b4)), none, none, none, none, none, none, none, none, none, none, none, none, none, none, none, none, none, none, none, none, none] [(HO.row (22:Nat) (1:Nat) (p.N0) (fun j => [SV.int .u64 (p.F0_0 j)])), (HO.row (22:Nat) (1:Nat) (p.N1) (fun j => [SV.int .u64 (p.F1_0 j)]))])) (Tr.need (e62_0_2 p s) (Tr.ite (e62_0_3 p s) (Tr.leaf (Rs.out (Ex.ret) [none, none, none, none, some (SV.bool (false)), none, none, none, none, none, none, none, none, none, none, none, none, none, none, none, none, none, none, none, none, none] [(HO.row (22:Nat) (1:Nat) (p.N0) (fun j => [SV.int .u64 (p.F0_0 j)])), (HO.row (22:Nat) (1:Nat) (p.N1) (fun j => [SV.int .u64 (p.F1_0 j)]))])) (Tr.leaf (Rs.on (S62_0.mk ((e62_0_5 p s))))))))
noncomputable def E62_0 : St th.R → Out th := evCode th Try.prog (auto th Try.prog nice53n [] 20) (autoH [] [] [] [] : Hints th) (lpAt Try.prog 62 0)
theorem B62_0 : CodeSound th Try.prog (lpAt Try.prog 62 0) E62_0 := evCode_sound (T := th) (P := Try.prog) (tbl := (auto th Try.prog nice53n [] 20)) (auto_sound (nice := nice53n) (us := []) nok53n 20) (autoH [] [] [] [] : Hints th) _ (LoopsOk_mem (fun _ => rfl) _ fun b hb L hL => by cases hL)
noncomputable def L62_0 : St th.R → Out th := loopL d62_0 ofV62_0 r62_0
theorem h1_62_0 (p : P62_0) (s : S62_0) : bld d62_0.tm (toV62_0 p s) = some (I62_0 p s) := by kernel_rfl
theorem h2_62_0 (l : List (Vl th.R)) (p : P62_0) (s : S62_0) (h : ofV62_0 l = some (p, s)) : l = toV62_0 p s := by
  unfold ofV62_0 at h
  split at h
  · cases h; rfl
  · cases h
theorem h3_62_0 (p : P62_0) (s : S62_0) : cvE d62_0 (E62_0 (I62_0 p s)) = some ((rf62_0 p s).map (Rs.map (toV62_0 p))) := by kernel_rfl
theorem h3g_62_0 (p : P62_0) (s : S62_0) : (rf62_0 p s).get = (r62_0 p s).get := by kernel_rfl
theorem h4_62_0 (p : P62_0) (s s1 : S62_0) : outH d62_0.dirt d62_0.n0 (r62_0 p s) = repH (maskH d62_0.dirt 0 d62_0.n0 (I62_0 p s1).heap) (r62_0 p s) := by kernel_rfl
theorem ls62_0 : CodeSound th Try.prog (.loop (lpAt Try.prog 62 0)) L62_0 := loopL_sound B62_0 d62_0 I62_0 toV62_0 (by kernel_rfl) h1_62_0 h2_62_0
  (fun p s => ⟨(rf62_0 p s).map (Rs.map (toV62_0 p)), h3_62_0 p s, fun h => by
    rw [Tr.map_ok]
    unfold r62_0 at h; unfold rf62_0
    simp only [Tr.ok, n_e62_0_1, n_e62_0_4, true_and, and_true, forall_const, implies_true] at h ⊢
    try exact h, by rw [Tr.map_get, h3g_62_0 p s]⟩) h4_62_0
theorem ok62 : LoopsOk th Try.prog (autoH [(4, L62_0)] [] [] [] : Hints th) (bodyOf Try.prog 62) := autoH_ok (bs := [lpAt Try.prog 62 0]) (by kernel_rfl) fun b hb L hL => by
  simp only [List.mem_cons, List.not_mem_nil, or_false] at hb
  rcases hb with rfl
  · have e : lookL [(4, L62_0)] (firstReg (lpAt Try.prog 62 0)) = some L62_0 := by kernel_rfl
    rw [e] at hL; cases hL
    exact ls62_0
noncomputable def f62_3 (v : V62) : (Bool) := (↑v.L:Int) != (↑v.K:Int)
noncomputable def f62_4 (v : V62) : (P62_0) := P62_0.mk v.L v.K false (↑v.L:Int) v.Q v.p v.N v.q
noncomputable def f62_0 (v : V62) : (Prop) := f62_3 v = false → (∀ (i:Nat), i < v.Q → (fun (j:Nat) => [SV.int IntKind.u64 (v.p j)]) i = elC (fun (j:Nat) => [SV.int IntKind.u64 (v.p j)]) (0:Nat) [Ck.int IntKind.u64] i) ∧ ∀ (i:Nat), i < v.N → (fun (j:Nat) => [SV.int IntKind.u64 (v.q j)]) i = elC (fun (j:Nat) => [SV.int IntKind.u64 (v.q j)]) (0:Nat) [Ck.int IntKind.u64] i
noncomputable def f62_1 (v : V62) : (Prop) := f62_3 v = false → LT (r62_0 (f62_4 v)) (S62_0.mk (0:Int))
noncomputable def f62z0 (v : V62) : S62_0 := lastS (r62_0 (f62_4 v)) (S62_0.mk (0:Int))
noncomputable def f62_2 (v : V62) : (Bool) := cnd (f62_3 v) false (cnd (cnd (e62_0_0 (f62_4 v) (f62z0 v)) false true) false true)
theorem n_f62_0 (v : V62) : f62_0 v := by
  unfold f62_0
  (repeat' first | intro _ | apply And.intro) <;> first | rfl | exact absurd (by assumption) (Nat.not_lt_zero _) | exact scpL_rowSet (by rfl) (by rfl) | exact scpL_rowEl (by kernel_rfl) _ | omega | decide
noncomputable def ff62 (v : V62) : Tr (Fin th.R) := (Tr.need (f62_0 v) (Tr.need (f62_1 v) (Tr.leaf (SV.bool (f62_2 v), [(HO.row (22:Nat) (1:Nat) (v.Q) (fun j => [SV.int .u64 (v.p j)])), (HO.row (22:Nat) (1:Nat) (v.N) (fun j => [SV.int .u64 (v.q j)]))], List.nil))))
noncomputable def f62 (v : V62) : Tr (Fin th.R) := (Tr.need (f62_1 v) (Tr.leaf (SV.bool (f62_2 v), [(HO.row (22:Nat) (1:Nat) (v.Q) (fun j => [SV.int .u64 (v.p j)])), (HO.row (22:Nat) (1:Nat) (v.N) (fun j => [SV.int .u64 (v.q j)]))], [])))
noncomputable def C62 : CF th.R := fnC d62 ofV62 (f62 )
theorem q62 (v : V62) : (evFn th Try.prog (auto th Try.prog nice53n [] 20) (autoH [(4, L62_0)] [] [] [] : Hints th) 62) (A62 v) (H62 v) = some (ff62 v) := by kernel_rfl
theorem qg62 (v : V62) : ((ff62 v).map (setD [])).get = (f62 v).get := by kernel_rfl
theorem qd62 (v : V62) : allD 2 [] (ff62 v) = true := by kernel_rfl
theorem s62 : Sound Try.prog th 62 (C62 ) := fnC_sound (evFn_sound' (T := th) (P := Try.prog) (tbl := (auto th Try.prog nice53n [] 20)) (auto_sound (nice := nice53n) (us := []) nok53n 20) (H := (autoH [(4, L62_0)] [] [] [] : Hints th)) (k := 62) (fnLoops ok62)) d62 A62 H62 toV62 (by kernel_rfl) (fun v => by kernel_rfl)
  (fun l v h => by
    unfold ofV62 at h
    split at h
    · cases h; rfl
    · cases h)
  [] (fun v => ⟨ff62 v, q62 v, fun h => by
    unfold f62 at h; unfold ff62
    simp only [Tr.ok, n_f62_0, true_and, and_true, forall_const, implies_true] at h ⊢
    try exact h, qg62 v, qd62 v⟩)
theorem qdd62 (v : V62) : (f62 v).get.2.2 = [] := by
  rw [← qg62, Tr.map_get]; rfl
set_option maxRecDepth 100000
structure S65_0 where
  x28 : Int
noncomputable instance : Inhabited S65_0 := ⟨⟨0⟩⟩
theorem RepS.chain {t : TS} : ∀ {r k1 : List Nd} {σ : Int → Sl} {n : Nat}, RepS t (k1 ++ r) σ → r.length ≤ n → chF t.M n (hdA r 0) = tA r
  | [], _, _, n, _, _ => (chF_stop (a := hdA [] 0) (.inl rfl)).trans rfl
  | y :: r, k1, σ, n, h, hn => by
    obtain ⟨m, rfl⟩ : ∃ m, n = m + 1 := ⟨n - 1, by simp at hn; omega⟩
    obtain ⟨e1, e2, e3⟩ := h.mem
    have hnz : y.t ≠ 0 := (h.ok y (by simp)).nz
    have hx : (sN y (hdA r 0) (lsA k1 0)).x = hdA r 0 := rfl
    show chF t.M (m + 1) y.t = _
    have h' : RepS t ((k1 ++ [y]) ++ r) σ := by simpa using h
    rw [chF_on hnz rfl, e2, hx, RepS.chain h' (by simp at hn; omega)]
    rfl
theorem RepS.list {t : TS} {l : List Nd} {σ : Int → Sl} (h : RepS t l σ) : chF t.M t.c.toNat t.f = tA l := by
  rw [h.f, h.c]
  have h' : RepS t ([] ++ l) σ := h
  exact RepS.chain h' (by simp)
def cp7 (z : Sl) : Sl := ⟨z.k, z.a, z.b, z.r, z.g, z.s, z.m, 0, 0, 0⟩
theorem RepS.tells {t : TS} {l : List Nd} {σ : Int → Sl} (h : RepS t l σ) {y : Nd} (hm : y ∈ l) : Go.Sx.M.ldE t.M y.t = 0 ∧ cp7 (Go.Sx.M.ld t.M y.t) = slN y ∧ dpE t.M y.t = y.d ∧ U64 y.t ∧ (Go.Sx.M.ld t.M y.t).d = y.d := by
  obtain ⟨k1, r, rfl⟩ := List.append_of_mem hm
  obtain ⟨e1, e2, e3⟩ := h.mem
  have ok := h.ok y (by simp)
  refine ⟨(h.E.ld ok.at_).2, by rw [e2]; rfl, ?_, e3, by rw [e2]; rfl⟩
  unfold dpE
  rw [e1, e2]
  rfl
set_option maxRecDepth 100000
noncomputable def nice65n : List (Nat × CF th.R) := nice53n
theorem nok65n : NiceOk Try.prog th nice65n := nok53n
set_option maxRecDepth 100000
theorem l62 {p : P62_0} {s : S62_0} (h0 : p.n0 ≤ p.N0) (h1 : p.n1 = p.n0 ∧ p.n1 ≤ p.N1) (h2 : p.x12 = p.n0) (hL : p.n0 ≤ 1000000) (hs : s.x13 = 0) : LT (r62_0 p) s ∧ (e62_0_0 p (lastS (r62_0 p) s) = decide (ls p.F0_0 p.n0 = ls p.F1_0 p.n0)) := by
  refine LT.post (fun s : S62_0 => ∃ k : Nat, s.x13 = k ∧ k ≤ p.n0 ∧ ∀ j, j < k → p.F0_0 j = p.F1_0 j) (fun s : S62_0 => e62_0_0 p s = decide (ls p.F0_0 p.n0 = ls p.F1_0 p.n0)) (fun s : S62_0 => (p.n0 - s.x13).toNat) ?_ ⟨0, hs, Nat.zero_le _, fun j hj => absurd hj (Nat.not_lt_zero _)⟩
  rintro ⟨x13⟩ ⟨k, g1, g2, g3⟩
  simp only at g1
  subst g1
  have w2 : IntKind.i64.wrap ((k:Int) + 1) = ((k + 1:Nat):Int) := by rw [wi (by omega) (by omega)]; omega
  have e6 : e62_0_6 p ⟨k⟩ = k := by show 0 + (k:Int).toNat = k; omega
  by_cases hc : k < p.n0
  · have hd : e62_0_0 p ⟨k⟩ = false := by
      show cnd (decide ((k:Int) < p.x12)) false true = false
      rw [h2, decide_eq_true (by omega)]; rfl
    have n2 : e62_0_2 p ⟨k⟩ := ⟨fun _ => ⟨by show (0:Int) ≤ k; omega, by show (k:Int) < p.n0; omega⟩, fun _ => by rw [e6]; omega, fun _ => ⟨by show (0:Int) ≤ k; omega, by show (k:Int) < p.n1; omega⟩, fun _ => by rw [e6]; omega⟩
    by_cases he : p.F0_0 k = p.F1_0 k
    · have e3 : e62_0_3 p ⟨k⟩ = false := by unfold e62_0_3; rw [e6, he]; exact bne_self_eq_false _
      simp only [r62_0, hd, e3, Tr.ok, Tr.get]
      refine ⟨⟨(fun e => by cases e), fun _ => ⟨n2, (fun e => by cases e), fun _ => trivial⟩⟩, .inr ⟨_, rfl, ⟨k + 1, w2, hc, fun j hj => ?_⟩, ?_⟩⟩
      · by_cases hjk : j = k
        · rw [hjk]; exact he
        · exact g3 j (by omega)
      · show ((p.n0:Int) - e62_0_5 p _).toNat < ((p.n0:Int) - (k:Int)).toNat
        simp only [e62_0_5, w2]
        omega
    · have e3 : e62_0_3 p ⟨k⟩ = true := by unfold e62_0_3; rw [e6]; exact bne_iff_ne.2 he
      refine ⟨?_, .inl ⟨?_, ?_⟩⟩
      · simp only [r62_0, hd, e3, Tr.ok]
        exact ⟨(fun e => by cases e), fun _ => ⟨n2, fun _ => trivial, (fun e => by cases e)⟩⟩
      · simp only [r62_0, hd, e3, Tr.get]
        exact ⟨_, _, _, rfl⟩
      · show e62_0_0 p ⟨k⟩ = _
        rw [hd]
        refine (decide_eq_false fun e => he ?_).symm
        have := congrArg (fun l => l[k]?) e
        simpa [ls, hc] using this
  · have hd : e62_0_0 p ⟨k⟩ = true := by
      show cnd (decide ((k:Int) < p.x12)) false true = true
      rw [h2, decide_eq_false (by omega)]; rfl
    refine ⟨?_, .inl ⟨?_, ?_⟩⟩
    · simp only [r62_0, hd, Tr.ok]
      exact ⟨fun _ => trivial, (fun e => by cases e)⟩
    · simp only [r62_0, hd, Tr.get]
      exact ⟨_, _, _, rfl⟩
    · show e62_0_0 p ⟨k⟩ = _
      rw [hd]
      refine (decide_eq_true ?_).symm
      unfold ls
      apply List.map_congr_left
      intro j hj
      rw [List.mem_range] at hj
      exact g3 j (by omega)
def pre62 (v : V62) : Prop := v.L ≤ v.Q ∧ v.K ≤ v.N ∧ v.L ≤ 1000000
theorem n62 (v : V62) (h : pre62 v) : (f62 v).ok ∧ (f62 v).get.1 = .bool (decide (ls v.p v.L = ls v.q v.K)) ∧ HOws (f62 v).get.2.1 [HO.row 22 1 v.Q (fun j => [.int .u64 (v.p j)]), HO.row 22 1 v.N (fun j => [.int .u64 (v.q j)])] := by
  obtain ⟨h1, h2, h3⟩ := h
  by_cases hz : v.L = v.K
  · have h3' : f62_3 v = false := by unfold f62_3; rw [hz]; exact bne_self_eq_false _
    have main := l62 (p := f62_4 v) (s := ⟨0⟩) h1 ⟨hz.symm, h2⟩ rfl h3 rfl
    have m2 : e62_0_0 (f62_4 v) (f62z0 v) = decide (ls v.p v.L = ls v.q v.L) := main.2
    refine ⟨⟨fun _ => main.1, trivial⟩, ?_, .refl _⟩
    simp only [f62, Tr.get, f62_2, h3', m2, ← hz]
    cases decide (ls v.p v.L = ls v.q v.L) <;> rfl
  · have h3' : f62_3 v = true := by unfold f62_3; exact bne_iff_ne.2 (by omega)
    refine ⟨⟨(fun e => by rw [h3'] at e; cases e), trivial⟩, ?_, .refl _⟩
    have hne : ¬ (ls v.p v.L = ls v.q v.K) := fun e => hz (by have := congrArg List.length e; simpa [ls_len] using this)
    simp only [f62, Tr.get, f62_2, h3', decide_eq_false hne]
    rfl
noncomputable def f62n (v : V62) : Tr (Fin th.R) := .need (pre62 v) (.leaf (.bool (decide (ls v.p v.L = ls v.q v.K)), [.row 22 1 v.Q (fun j => [.int .u64 (v.p j)]), .row 22 1 v.N (fun j => [.int .u64 (v.q j)])], []))
theorem s62n : Sound Try.prog th 62 (fnC d62 ofV62 f62n) := fnC_refine s62 fun v h => by
  obtain ⟨hp, _⟩ := h
  obtain ⟨a, b, c⟩ := n62 v hp
  exact ⟨a, b.symm, (qdd62 v).symm, c, by show 2 ≤ 2; decide⟩
noncomputable def nice62n : List (Nat × CF th.R) := (62, lift (fnC d62 ofV62 f62n)) :: nice65n
theorem nok62n : NiceOk Try.prog th nice62n := ⟨lift_sound s62n, nok65n⟩
set_option maxRecDepth 100000
structure V52 where
def A52 (v : V52) : List SV := []
def H52 (v : V52) : List (HO th.R) := []
def toV52 (v : V52) : List (Vl th.R) := []
def ofV52 : List (Vl th.R) → Option V52
  | [] => some ⟨⟩
  | _ => none
def d52 : Ft := ⟨[], []⟩
noncomputable def f52_0 (v : V52) : (Prop) := pre53 V53.mk
noncomputable def f52_1 (v : V52) : (Prop) := true = true → pre109 (V109.mk (256:Int) (8:Int) (0:Int) (7:Int) (0:Int) (0:Int) (0:Int) (0:Int) (0:Int) (0:Int) op0.fst.M)
noncomputable def f52_2 (v : V52) : (Prop) := true = true → pre56 (V56.mk (256:Int) (288:Int) (8:Int) (128:Int) (7:Int) (0:Int) (0:Int) (0:Int) (0:Int) (256:Int) (1:Int) (mrgM true (rtT (TS.mk op0.fst.M (0:Int) (0:Int)) (256:Int) (Sl.mk (8:Int) (0:Int) (7:Int) (0:Int) (0:Int) (0:Int) (0:Int) (0:Int) (0:Int) (0:Int))).M op0.fst.M))
noncomputable def f52_3 (v : V52) : (Prop) := true = true → pre56 (V56.mk (256:Int) (320:Int) (8:Int) (256:Int) (7:Int) (0:Int) (0:Int) (0:Int) (0:Int) (256:Int) (2:Int) (mrgM true (chT (TS.mk (mrgM true (rtT (TS.mk op0.fst.M (0:Int) (0:Int)) (256:Int) (Sl.mk (8:Int) (0:Int) (7:Int) (0:Int) (0:Int) (0:Int) (0:Int) (0:Int) (0:Int) (0:Int))).M op0.fst.M) (256:Int) (1:Int)) (256:Int) (288:Int) (Sl.mk (8:Int) (128:Int) (7:Int) (0:Int) (0:Int) (0:Int) (0:Int) (0:Int) (0:Int) (0:Int))).M (mrgM true (rtT (TS.mk op0.fst.M (0:Int) (0:Int)) (256:Int) (Sl.mk (8:Int) (0:Int) (7:Int) (0:Int) (0:Int) (0:Int) (0:Int) (0:Int) (0:Int) (0:Int))).M op0.fst.M)))
noncomputable def f52_4 (v : V52) : (Prop) := false = false → pre75 (V75.mk (256:Int) (3:Int) (mrgM true (chT (TS.mk (mrgM true (chT (TS.mk (mrgM true (rtT (TS.mk op0.fst.M (0:Int) (0:Int)) (256:Int) (Sl.mk (8:Int) (0:Int) (7:Int) (0:Int) (0:Int) (0:Int) (0:Int) (0:Int) (0:Int) (0:Int))).M op0.fst.M) (256:Int) (1:Int)) (256:Int) (288:Int) (Sl.mk (8:Int) (128:Int) (7:Int) (0:Int) (0:Int) (0:Int) (0:Int) (0:Int) (0:Int) (0:Int))).M (mrgM true (rtT (TS.mk op0.fst.M (0:Int) (0:Int)) (256:Int) (Sl.mk (8:Int) (0:Int) (7:Int) (0:Int) (0:Int) (0:Int) (0:Int) (0:Int) (0:Int) (0:Int))).M op0.fst.M)) (256:Int) (2:Int)) (256:Int) (320:Int) (Sl.mk (8:Int) (256:Int) (7:Int) (0:Int) (0:Int) (0:Int) (0:Int) (0:Int) (0:Int) (0:Int))).M (mrgM true (chT (TS.mk (mrgM true (rtT (TS.mk op0.fst.M (0:Int) (0:Int)) (256:Int) (Sl.mk (8:Int) (0:Int) (7:Int) (0:Int) (0:Int) (0:Int) (0:Int) (0:Int) (0:Int) (0:Int))).M op0.fst.M) (256:Int) (1:Int)) (256:Int) (288:Int) (Sl.mk (8:Int) (128:Int) (7:Int) (0:Int) (0:Int) (0:Int) (0:Int) (0:Int) (0:Int) (0:Int))).M (mrgM true (rtT (TS.mk op0.fst.M (0:Int) (0:Int)) (256:Int) (Sl.mk (8:Int) (0:Int) (7:Int) (0:Int) (0:Int) (0:Int) (0:Int) (0:Int) (0:Int) (0:Int))).M op0.fst.M))))
noncomputable def f52_5 (v : V52) : (Prop) := false = false → ∀ (i:Nat), scpL (0:Nat) ((fun (j:Nat) => [SV.int IntKind.u64 ((chF (mrgM true (chT (TS.mk (mrgM true (chT (TS.mk (mrgM true (rtT (TS.mk op0.fst.M (0:Int) (0:Int)) (256:Int) (Sl.mk (8:Int) (0:Int) (7:Int) (0:Int) (0:Int) (0:Int) (0:Int) (0:Int) (0:Int) (0:Int))).M op0.fst.M) (256:Int) (1:Int)) (256:Int) (288:Int) (Sl.mk (8:Int) (128:Int) (7:Int) (0:Int) (0:Int) (0:Int) (0:Int) (0:Int) (0:Int) (0:Int))).M (mrgM true (rtT (TS.mk op0.fst.M (0:Int) (0:Int)) (256:Int) (Sl.mk (8:Int) (0:Int) (7:Int) (0:Int) (0:Int) (0:Int) (0:Int) (0:Int) (0:Int) (0:Int))).M op0.fst.M)) (256:Int) (2:Int)) (256:Int) (320:Int) (Sl.mk (8:Int) (256:Int) (7:Int) (0:Int) (0:Int) (0:Int) (0:Int) (0:Int) (0:Int) (0:Int))).M (mrgM true (chT (TS.mk (mrgM true (rtT (TS.mk op0.fst.M (0:Int) (0:Int)) (256:Int) (Sl.mk (8:Int) (0:Int) (7:Int) (0:Int) (0:Int) (0:Int) (0:Int) (0:Int) (0:Int) (0:Int))).M op0.fst.M) (256:Int) (1:Int)) (256:Int) (288:Int) (Sl.mk (8:Int) (128:Int) (7:Int) (0:Int) (0:Int) (0:Int) (0:Int) (0:Int) (0:Int) (0:Int))).M (mrgM true (rtT (TS.mk op0.fst.M (0:Int) (0:Int)) (256:Int) (Sl.mk (8:Int) (0:Int) (7:Int) (0:Int) (0:Int) (0:Int) (0:Int) (0:Int) (0:Int) (0:Int))).M op0.fst.M))) (3:Nat) (256:Int)).getD j (0:Int))]) i) = true
noncomputable def f52_6 (v : V52) : (Prop) := false = false → pre58 (V58.mk (256:Int) (256:Int) (3:Int) (mrgM true (chT (TS.mk (mrgM true (chT (TS.mk (mrgM true (rtT (TS.mk op0.fst.M (0:Int) (0:Int)) (256:Int) (Sl.mk (8:Int) (0:Int) (7:Int) (0:Int) (0:Int) (0:Int) (0:Int) (0:Int) (0:Int) (0:Int))).M op0.fst.M) (256:Int) (1:Int)) (256:Int) (288:Int) (Sl.mk (8:Int) (128:Int) (7:Int) (0:Int) (0:Int) (0:Int) (0:Int) (0:Int) (0:Int) (0:Int))).M (mrgM true (rtT (TS.mk op0.fst.M (0:Int) (0:Int)) (256:Int) (Sl.mk (8:Int) (0:Int) (7:Int) (0:Int) (0:Int) (0:Int) (0:Int) (0:Int) (0:Int) (0:Int))).M op0.fst.M)) (256:Int) (2:Int)) (256:Int) (320:Int) (Sl.mk (8:Int) (256:Int) (7:Int) (0:Int) (0:Int) (0:Int) (0:Int) (0:Int) (0:Int) (0:Int))).M (mrgM true (chT (TS.mk (mrgM true (rtT (TS.mk op0.fst.M (0:Int) (0:Int)) (256:Int) (Sl.mk (8:Int) (0:Int) (7:Int) (0:Int) (0:Int) (0:Int) (0:Int) (0:Int) (0:Int) (0:Int))).M op0.fst.M) (256:Int) (1:Int)) (256:Int) (288:Int) (Sl.mk (8:Int) (128:Int) (7:Int) (0:Int) (0:Int) (0:Int) (0:Int) (0:Int) (0:Int) (0:Int))).M (mrgM true (rtT (TS.mk op0.fst.M (0:Int) (0:Int)) (256:Int) (Sl.mk (8:Int) (0:Int) (7:Int) (0:Int) (0:Int) (0:Int) (0:Int) (0:Int) (0:Int) (0:Int))).M op0.fst.M))))
noncomputable def f52_7 (v : V52) : (Prop) := false = false → ∀ (i:Nat), scpL (0:Nat) ((fun (j:Nat) => [SV.int IntKind.u64 ((blw (mrgM true (chT (TS.mk (mrgM true (chT (TS.mk (mrgM true (rtT (TS.mk op0.fst.M (0:Int) (0:Int)) (256:Int) (Sl.mk (8:Int) (0:Int) (7:Int) (0:Int) (0:Int) (0:Int) (0:Int) (0:Int) (0:Int) (0:Int))).M op0.fst.M) (256:Int) (1:Int)) (256:Int) (288:Int) (Sl.mk (8:Int) (128:Int) (7:Int) (0:Int) (0:Int) (0:Int) (0:Int) (0:Int) (0:Int) (0:Int))).M (mrgM true (rtT (TS.mk op0.fst.M (0:Int) (0:Int)) (256:Int) (Sl.mk (8:Int) (0:Int) (7:Int) (0:Int) (0:Int) (0:Int) (0:Int) (0:Int) (0:Int) (0:Int))).M op0.fst.M)) (256:Int) (2:Int)) (256:Int) (320:Int) (Sl.mk (8:Int) (256:Int) (7:Int) (0:Int) (0:Int) (0:Int) (0:Int) (0:Int) (0:Int) (0:Int))).M (mrgM true (chT (TS.mk (mrgM true (rtT (TS.mk op0.fst.M (0:Int) (0:Int)) (256:Int) (Sl.mk (8:Int) (0:Int) (7:Int) (0:Int) (0:Int) (0:Int) (0:Int) (0:Int) (0:Int) (0:Int))).M op0.fst.M) (256:Int) (1:Int)) (256:Int) (288:Int) (Sl.mk (8:Int) (128:Int) (7:Int) (0:Int) (0:Int) (0:Int) (0:Int) (0:Int) (0:Int) (0:Int))).M (mrgM true (rtT (TS.mk op0.fst.M (0:Int) (0:Int)) (256:Int) (Sl.mk (8:Int) (0:Int) (7:Int) (0:Int) (0:Int) (0:Int) (0:Int) (0:Int) (0:Int) (0:Int))).M op0.fst.M))) (3:Int) (256:Int)).getD j (0:Int))]) i) = true
noncomputable def f52_8 (v : V52) : (Prop) := false = false → true = true → (0:Int) ≤ (1:Int) ∧ (1:Int) < (3:Int)
noncomputable def f52_9 (v : V52) : (Prop) := false = false → true = true → (1:Nat) < (3:Nat)
noncomputable def f52_10 (v : V52) : (Prop) := false = false → true = true → (0:Int) ≤ (2:Int) ∧ (2:Int) < (3:Int)
noncomputable def f52_11 (v : V52) : (Prop) := false = false → true = true → (2:Nat) < (3:Nat)
noncomputable def f52_12 (v : V52) : (Prop) := false = false → true = true → pre63 (V63.mk (256:Int) (256:Int) (3:Int) (mrgM true (chT (TS.mk (mrgM true (chT (TS.mk (mrgM true (rtT (TS.mk op0.fst.M (0:Int) (0:Int)) (256:Int) (Sl.mk (8:Int) (0:Int) (7:Int) (0:Int) (0:Int) (0:Int) (0:Int) (0:Int) (0:Int) (0:Int))).M op0.fst.M) (256:Int) (1:Int)) (256:Int) (288:Int) (Sl.mk (8:Int) (128:Int) (7:Int) (0:Int) (0:Int) (0:Int) (0:Int) (0:Int) (0:Int) (0:Int))).M (mrgM true (rtT (TS.mk op0.fst.M (0:Int) (0:Int)) (256:Int) (Sl.mk (8:Int) (0:Int) (7:Int) (0:Int) (0:Int) (0:Int) (0:Int) (0:Int) (0:Int) (0:Int))).M op0.fst.M)) (256:Int) (2:Int)) (256:Int) (320:Int) (Sl.mk (8:Int) (256:Int) (7:Int) (0:Int) (0:Int) (0:Int) (0:Int) (0:Int) (0:Int) (0:Int))).M (mrgM true (chT (TS.mk (mrgM true (rtT (TS.mk op0.fst.M (0:Int) (0:Int)) (256:Int) (Sl.mk (8:Int) (0:Int) (7:Int) (0:Int) (0:Int) (0:Int) (0:Int) (0:Int) (0:Int) (0:Int))).M op0.fst.M) (256:Int) (1:Int)) (256:Int) (288:Int) (Sl.mk (8:Int) (128:Int) (7:Int) (0:Int) (0:Int) (0:Int) (0:Int) (0:Int) (0:Int) (0:Int))).M (mrgM true (rtT (TS.mk op0.fst.M (0:Int) (0:Int)) (256:Int) (Sl.mk (8:Int) (0:Int) (7:Int) (0:Int) (0:Int) (0:Int) (0:Int) (0:Int) (0:Int) (0:Int))).M op0.fst.M))))
noncomputable def f52_13 (v : V52) : (Prop) := false = false → true = true → pre59 (V59.mk (320:Int) (320:Int) (2:Int) (mrgM true (rmT (TS.mk (mrgM true (chT (TS.mk (mrgM true (chT (TS.mk (mrgM true (rtT (TS.mk op0.fst.M (0:Int) (0:Int)) (256:Int) (Sl.mk (8:Int) (0:Int) (7:Int) (0:Int) (0:Int) (0:Int) (0:Int) (0:Int) (0:Int) (0:Int))).M op0.fst.M) (256:Int) (1:Int)) (256:Int) (288:Int) (Sl.mk (8:Int) (128:Int) (7:Int) (0:Int) (0:Int) (0:Int) (0:Int) (0:Int) (0:Int) (0:Int))).M (mrgM true (rtT (TS.mk op0.fst.M (0:Int) (0:Int)) (256:Int) (Sl.mk (8:Int) (0:Int) (7:Int) (0:Int) (0:Int) (0:Int) (0:Int) (0:Int) (0:Int) (0:Int))).M op0.fst.M)) (256:Int) (2:Int)) (256:Int) (320:Int) (Sl.mk (8:Int) (256:Int) (7:Int) (0:Int) (0:Int) (0:Int) (0:Int) (0:Int) (0:Int) (0:Int))).M (mrgM true (chT (TS.mk (mrgM true (rtT (TS.mk op0.fst.M (0:Int) (0:Int)) (256:Int) (Sl.mk (8:Int) (0:Int) (7:Int) (0:Int) (0:Int) (0:Int) (0:Int) (0:Int) (0:Int) (0:Int))).M op0.fst.M) (256:Int) (1:Int)) (256:Int) (288:Int) (Sl.mk (8:Int) (128:Int) (7:Int) (0:Int) (0:Int) (0:Int) (0:Int) (0:Int) (0:Int) (0:Int))).M (mrgM true (rtT (TS.mk op0.fst.M (0:Int) (0:Int)) (256:Int) (Sl.mk (8:Int) (0:Int) (7:Int) (0:Int) (0:Int) (0:Int) (0:Int) (0:Int) (0:Int) (0:Int))).M op0.fst.M))) (256:Int) (3:Int)) (256:Int)).M (mrgM true (chT (TS.mk (mrgM true (chT (TS.mk (mrgM true (rtT (TS.mk op0.fst.M (0:Int) (0:Int)) (256:Int) (Sl.mk (8:Int) (0:Int) (7:Int) (0:Int) (0:Int) (0:Int) (0:Int) (0:Int) (0:Int) (0:Int))).M op0.fst.M) (256:Int) (1:Int)) (256:Int) (288:Int) (Sl.mk (8:Int) (128:Int) (7:Int) (0:Int) (0:Int) (0:Int) (0:Int) (0:Int) (0:Int) (0:Int))).M (mrgM true (rtT (TS.mk op0.fst.M (0:Int) (0:Int)) (256:Int) (Sl.mk (8:Int) (0:Int) (7:Int) (0:Int) (0:Int) (0:Int) (0:Int) (0:Int) (0:Int) (0:Int))).M op0.fst.M)) (256:Int) (2:Int)) (256:Int) (320:Int) (Sl.mk (8:Int) (256:Int) (7:Int) (0:Int) (0:Int) (0:Int) (0:Int) (0:Int) (0:Int) (0:Int))).M (mrgM true (chT (TS.mk (mrgM true (rtT (TS.mk op0.fst.M (0:Int) (0:Int)) (256:Int) (Sl.mk (8:Int) (0:Int) (7:Int) (0:Int) (0:Int) (0:Int) (0:Int) (0:Int) (0:Int) (0:Int))).M op0.fst.M) (256:Int) (1:Int)) (256:Int) (288:Int) (Sl.mk (8:Int) (128:Int) (7:Int) (0:Int) (0:Int) (0:Int) (0:Int) (0:Int) (0:Int) (0:Int))).M (mrgM true (rtT (TS.mk op0.fst.M (0:Int) (0:Int)) (256:Int) (Sl.mk (8:Int) (0:Int) (7:Int) (0:Int) (0:Int) (0:Int) (0:Int) (0:Int) (0:Int) (0:Int))).M op0.fst.M)))))
noncomputable def f52_14 (v : V52) : (Prop) := false = false → true = true → pre59 (V59.mk (288:Int) (320:Int) (2:Int) (mrgM true (rmT (TS.mk (mrgM true (chT (TS.mk (mrgM true (chT (TS.mk (mrgM true (rtT (TS.mk op0.fst.M (0:Int) (0:Int)) (256:Int) (Sl.mk (8:Int) (0:Int) (7:Int) (0:Int) (0:Int) (0:Int) (0:Int) (0:Int) (0:Int) (0:Int))).M op0.fst.M) (256:Int) (1:Int)) (256:Int) (288:Int) (Sl.mk (8:Int) (128:Int) (7:Int) (0:Int) (0:Int) (0:Int) (0:Int) (0:Int) (0:Int) (0:Int))).M (mrgM true (rtT (TS.mk op0.fst.M (0:Int) (0:Int)) (256:Int) (Sl.mk (8:Int) (0:Int) (7:Int) (0:Int) (0:Int) (0:Int) (0:Int) (0:Int) (0:Int) (0:Int))).M op0.fst.M)) (256:Int) (2:Int)) (256:Int) (320:Int) (Sl.mk (8:Int) (256:Int) (7:Int) (0:Int) (0:Int) (0:Int) (0:Int) (0:Int) (0:Int) (0:Int))).M (mrgM true (chT (TS.mk (mrgM true (rtT (TS.mk op0.fst.M (0:Int) (0:Int)) (256:Int) (Sl.mk (8:Int) (0:Int) (7:Int) (0:Int) (0:Int) (0:Int) (0:Int) (0:Int) (0:Int) (0:Int))).M op0.fst.M) (256:Int) (1:Int)) (256:Int) (288:Int) (Sl.mk (8:Int) (128:Int) (7:Int) (0:Int) (0:Int) (0:Int) (0:Int) (0:Int) (0:Int) (0:Int))).M (mrgM true (rtT (TS.mk op0.fst.M (0:Int) (0:Int)) (256:Int) (Sl.mk (8:Int) (0:Int) (7:Int) (0:Int) (0:Int) (0:Int) (0:Int) (0:Int) (0:Int) (0:Int))).M op0.fst.M))) (256:Int) (3:Int)) (256:Int)).M (mrgM true (chT (TS.mk (mrgM true (chT (TS.mk (mrgM true (rtT (TS.mk op0.fst.M (0:Int) (0:Int)) (256:Int) (Sl.mk (8:Int) (0:Int) (7:Int) (0:Int) (0:Int) (0:Int) (0:Int) (0:Int) (0:Int) (0:Int))).M op0.fst.M) (256:Int) (1:Int)) (256:Int) (288:Int) (Sl.mk (8:Int) (128:Int) (7:Int) (0:Int) (0:Int) (0:Int) (0:Int) (0:Int) (0:Int) (0:Int))).M (mrgM true (rtT (TS.mk op0.fst.M (0:Int) (0:Int)) (256:Int) (Sl.mk (8:Int) (0:Int) (7:Int) (0:Int) (0:Int) (0:Int) (0:Int) (0:Int) (0:Int) (0:Int))).M op0.fst.M)) (256:Int) (2:Int)) (256:Int) (320:Int) (Sl.mk (8:Int) (256:Int) (7:Int) (0:Int) (0:Int) (0:Int) (0:Int) (0:Int) (0:Int) (0:Int))).M (mrgM true (chT (TS.mk (mrgM true (rtT (TS.mk op0.fst.M (0:Int) (0:Int)) (256:Int) (Sl.mk (8:Int) (0:Int) (7:Int) (0:Int) (0:Int) (0:Int) (0:Int) (0:Int) (0:Int) (0:Int))).M op0.fst.M) (256:Int) (1:Int)) (256:Int) (288:Int) (Sl.mk (8:Int) (128:Int) (7:Int) (0:Int) (0:Int) (0:Int) (0:Int) (0:Int) (0:Int) (0:Int))).M (mrgM true (rtT (TS.mk op0.fst.M (0:Int) (0:Int)) (256:Int) (Sl.mk (8:Int) (0:Int) (7:Int) (0:Int) (0:Int) (0:Int) (0:Int) (0:Int) (0:Int) (0:Int))).M op0.fst.M)))))
noncomputable def f52_15 (v : V52) : (Prop) := false = false → true = true → pre59 (V59.mk (256:Int) (320:Int) (2:Int) (mrgM true (rmT (TS.mk (mrgM true (chT (TS.mk (mrgM true (chT (TS.mk (mrgM true (rtT (TS.mk op0.fst.M (0:Int) (0:Int)) (256:Int) (Sl.mk (8:Int) (0:Int) (7:Int) (0:Int) (0:Int) (0:Int) (0:Int) (0:Int) (0:Int) (0:Int))).M op0.fst.M) (256:Int) (1:Int)) (256:Int) (288:Int) (Sl.mk (8:Int) (128:Int) (7:Int) (0:Int) (0:Int) (0:Int) (0:Int) (0:Int) (0:Int) (0:Int))).M (mrgM true (rtT (TS.mk op0.fst.M (0:Int) (0:Int)) (256:Int) (Sl.mk (8:Int) (0:Int) (7:Int) (0:Int) (0:Int) (0:Int) (0:Int) (0:Int) (0:Int) (0:Int))).M op0.fst.M)) (256:Int) (2:Int)) (256:Int) (320:Int) (Sl.mk (8:Int) (256:Int) (7:Int) (0:Int) (0:Int) (0:Int) (0:Int) (0:Int) (0:Int) (0:Int))).M (mrgM true (chT (TS.mk (mrgM true (rtT (TS.mk op0.fst.M (0:Int) (0:Int)) (256:Int) (Sl.mk (8:Int) (0:Int) (7:Int) (0:Int) (0:Int) (0:Int) (0:Int) (0:Int) (0:Int) (0:Int))).M op0.fst.M) (256:Int) (1:Int)) (256:Int) (288:Int) (Sl.mk (8:Int) (128:Int) (7:Int) (0:Int) (0:Int) (0:Int) (0:Int) (0:Int) (0:Int) (0:Int))).M (mrgM true (rtT (TS.mk op0.fst.M (0:Int) (0:Int)) (256:Int) (Sl.mk (8:Int) (0:Int) (7:Int) (0:Int) (0:Int) (0:Int) (0:Int) (0:Int) (0:Int) (0:Int))).M op0.fst.M))) (256:Int) (3:Int)) (256:Int)).M (mrgM true (chT (TS.mk (mrgM true (chT (TS.mk (mrgM true (rtT (TS.mk op0.fst.M (0:Int) (0:Int)) (256:Int) (Sl.mk (8:Int) (0:Int) (7:Int) (0:Int) (0:Int) (0:Int) (0:Int) (0:Int) (0:Int) (0:Int))).M op0.fst.M) (256:Int) (1:Int)) (256:Int) (288:Int) (Sl.mk (8:Int) (128:Int) (7:Int) (0:Int) (0:Int) (0:Int) (0:Int) (0:Int) (0:Int) (0:Int))).M (mrgM true (rtT (TS.mk op0.fst.M (0:Int) (0:Int)) (256:Int) (Sl.mk (8:Int) (0:Int) (7:Int) (0:Int) (0:Int) (0:Int) (0:Int) (0:Int) (0:Int) (0:Int))).M op0.fst.M)) (256:Int) (2:Int)) (256:Int) (320:Int) (Sl.mk (8:Int) (256:Int) (7:Int) (0:Int) (0:Int) (0:Int) (0:Int) (0:Int) (0:Int) (0:Int))).M (mrgM true (chT (TS.mk (mrgM true (rtT (TS.mk op0.fst.M (0:Int) (0:Int)) (256:Int) (Sl.mk (8:Int) (0:Int) (7:Int) (0:Int) (0:Int) (0:Int) (0:Int) (0:Int) (0:Int) (0:Int))).M op0.fst.M) (256:Int) (1:Int)) (256:Int) (288:Int) (Sl.mk (8:Int) (128:Int) (7:Int) (0:Int) (0:Int) (0:Int) (0:Int) (0:Int) (0:Int) (0:Int))).M (mrgM true (rtT (TS.mk op0.fst.M (0:Int) (0:Int)) (256:Int) (Sl.mk (8:Int) (0:Int) (7:Int) (0:Int) (0:Int) (0:Int) (0:Int) (0:Int) (0:Int) (0:Int))).M op0.fst.M)))))
theorem n_f52_5 (v : V52) : f52_5 v := by
  unfold f52_5
  (repeat' first | intro _ | apply And.intro) <;> first | rfl | exact absurd (by assumption) (Nat.not_lt_zero _) | exact scpL_rowSet (by rfl) (by rfl) | exact scpL_rowEl (by kernel_rfl) _ | omega | decide
theorem n_f52_7 (v : V52) : f52_7 v := by
  unfold f52_7
  (repeat' first | intro _ | apply And.intro) <;> first | rfl | exact absurd (by assumption) (Nat.not_lt_zero _) | exact scpL_rowSet (by rfl) (by rfl) | exact scpL_rowEl (by kernel_rfl) _ | omega | decide
theorem n_f52_8 (v : V52) : f52_8 v := by
  unfold f52_8
  (repeat' first | intro _ | apply And.intro) <;> first | rfl | exact absurd (by assumption) (Nat.not_lt_zero _) | exact scpL_rowSet (by rfl) (by rfl) | exact scpL_rowEl (by kernel_rfl) _ | omega | decide
theorem n_f52_9 (v : V52) : f52_9 v := by
  unfold f52_9
  (repeat' first | intro _ | apply And.intro) <;> first | rfl | exact absurd (by assumption) (Nat.not_lt_zero _) | exact scpL_rowSet (by rfl) (by rfl) | exact scpL_rowEl (by kernel_rfl) _ | omega | decide
theorem n_f52_10 (v : V52) : f52_10 v := by
  unfold f52_10
  (repeat' first | intro _ | apply And.intro) <;> first | rfl | exact absurd (by assumption) (Nat.not_lt_zero _) | exact scpL_rowSet (by rfl) (by rfl) | exact scpL_rowEl (by kernel_rfl) _ | omega | decide
theorem n_f52_11 (v : V52) : f52_11 v := by
  unfold f52_11
  (repeat' first | intro _ | apply And.intro) <;> first | rfl | exact absurd (by assumption) (Nat.not_lt_zero _) | exact scpL_rowSet (by rfl) (by rfl) | exact scpL_rowEl (by kernel_rfl) _ | omega | decide
noncomputable def ff52 (v : V52) : Tr (Fin th.R) := (Tr.need (f52_0 v) (Tr.need (f52_1 v) (Tr.need (f52_2 v) (Tr.need (f52_3 v) (Tr.need (f52_4 v) (Tr.need (f52_5 v) (Tr.need (f52_6 v) (Tr.need (f52_7 v) (Tr.need (f52_8 v) (Tr.need (f52_9 v) (Tr.need (f52_10 v) (Tr.need (f52_11 v) (Tr.need (f52_12 v) (Tr.need (f52_13 v) (Tr.need (f52_14 v) (Tr.need (f52_15 v) (Tr.leaf (SV.bool (true), List.nil, List.nil))))))))))))))))))
noncomputable def f52 (v : V52) : Tr (Fin th.R) := (Tr.need (f52_0 v) (Tr.need (f52_1 v) (Tr.need (f52_2 v) (Tr.need (f52_3 v) (Tr.need (f52_4 v) (Tr.need (f52_6 v) (Tr.need (f52_12 v) (Tr.need (f52_13 v) (Tr.need (f52_14 v) (Tr.need (f52_15 v) (Tr.leaf (SV.bool (true), List.nil, []))))))))))))
noncomputable def C52 : CF th.R := fnC d52 ofV52 (f52 )
theorem q52 (v : V52) : (evFn th Try.prog (auto th Try.prog nice62n [] 20) (autoH [] [] [] [] : Hints th) 52) (A52 v) (H52 v) = some (ff52 v) := by kernel_rfl
theorem qg52 (v : V52) : ((ff52 v).map (setD [])).get = (f52 v).get := by kernel_rfl
theorem qd52 (v : V52) : allD 0 [] (ff52 v) = true := by kernel_rfl
theorem s52 : Sound Try.prog th 52 (C52 ) := fnC_sound (evFn_sound' (T := th) (P := Try.prog) (tbl := (auto th Try.prog nice62n [] 20)) (auto_sound (nice := nice62n) (us := []) nok62n 20) (H := (autoH [] [] [] [] : Hints th)) (k := 52) (fnLoops (LoopsOk_mem (fun _ => rfl) _ fun _ _ _ e => by cases e))) d52 A52 H52 toV52 (by kernel_rfl) (fun v => by kernel_rfl)
  (fun l v h => by
    unfold ofV52 at h
    split at h
    · cases h; rfl
    · cases h)
  [] (fun v => ⟨ff52 v, q52 v, fun h => by
    unfold f52 at h; unfold ff52
    simp only [Tr.ok, n_f52_5, n_f52_7, n_f52_8, n_f52_9, n_f52_10, n_f52_11, true_and, and_true, forall_const, implies_true] at h ⊢
    try exact h, qg52 v, qd52 v⟩)
theorem qdd52 (v : V52) : (f52 v).get.2.2 = [] := by
  rw [← qg52, Tr.map_get]; rfl
set_option maxRecDepth 100000
def pre52 (v : V52) : Prop := True
theorem n52 (v : V52) (h : pre52 v) : (f52 v).ok ∧ (f52 v).get.1 = .bool true ∧ HOws (f52 v).get.2.1 [] := by
  have u256 : U64 256 := ⟨by decide, by decide⟩
  have u288 : U64 288 := ⟨by decide, by decide⟩
  have u320 : U64 320 := ⟨by decide, by decide⟩
  have i64_2 : I64 2 := ⟨by decide, by decide⟩
  have i64_3 : I64 3 := ⟨by decide, by decide⟩
  have le3 : (3:Int) ≤ 100000 := by decide
  have z0 : SlR ⟨8, 0, 7, 0, 0, 0, 0, 0, 0, 0⟩ := by (repeat' first | apply SlR.mk | apply And.intro) <;> decide
  have z1 : SlR ⟨8, 128, 7, 0, 0, 0, 0, 0, 0, 0⟩ := by (repeat' first | apply SlR.mk | apply And.intro) <;> decide
  have z2 : SlR ⟨8, 256, 7, 0, 0, 0, 0, 0, 0, 0⟩ := by (repeat' first | apply SlR.mk | apply And.intro) <;> decide
  have T0 : TR ⟨op0.1.M, 0, 0⟩ := op0_R
  have r1 := rtT_R T0 u256 z0
  have T1 : TR ⟨mrgM true (rtT ⟨op0.1.M, 0, 0⟩ 256 ⟨8, 0, 7, 0, 0, 0, 0, 0, 0, 0⟩).M op0.1.M, 256, 1⟩ := ⟨mrg_ind (fun _ => r1.1) (fun e => by cases e), u256, by decide, by decide⟩
  have r2 := chT_R T1 u256 u288 z1
  have T2 : ∀ B, TR ⟨mrgM true (chT ⟨mrgM true (rtT ⟨op0.1.M, 0, 0⟩ 256 ⟨8, 0, 7, 0, 0, 0, 0, 0, 0, 0⟩).M op0.1.M, 256, 1⟩ 256 288 ⟨8, 128, 7, 0, 0, 0, 0, 0, 0, 0⟩).M B, 256, 2⟩ := fun B => ⟨mrg_ind (fun _ => r2.1) (fun e => by cases e), u256, i64_2⟩
  have r3 := fun B => chT_R (T2 B) u256 u320 z2
  have T3 : ∀ B C, TR ⟨mrgM true (chT ⟨mrgM true (chT ⟨mrgM true (rtT ⟨op0.1.M, 0, 0⟩ 256 ⟨8, 0, 7, 0, 0, 0, 0, 0, 0, 0⟩).M op0.1.M, 256, 1⟩ 256 288 ⟨8, 128, 7, 0, 0, 0, 0, 0, 0, 0⟩).M B, 256, 2⟩ 256 320 ⟨8, 256, 7, 0, 0, 0, 0, 0, 0, 0⟩).M C, 256, 3⟩ := fun B C => ⟨mrg_ind (fun _ => (r3 B).1) (fun e => by cases e), u256, i64_3⟩
  refine ⟨⟨trivial, fun _ => ⟨u256, z0, T0⟩, fun _ => ⟨⟨u256, u288⟩, z1, T1⟩, fun _ => ⟨⟨u256, u320⟩, z2, T2 _⟩, fun _ => ⟨T3 _ _, le3⟩, fun _ => ⟨u256, T3 _ _, le3⟩, fun _ _ => ⟨u256, T3 _ _, le3⟩, fun _ _ => u320, fun _ _ => u288, fun _ _ => u256, trivial⟩, rfl, .refl _⟩
noncomputable def f52n (v : V52) : Tr (Fin th.R) := .need (pre52 v) (.leaf (.bool true, [], []))
theorem s52n : Sound Try.prog th 52 (fnC d52 ofV52 f52n) := fnC_refine s52 fun v h => by
  obtain ⟨hp, _⟩ := h
  obtain ⟨a, b, c⟩ := n52 v hp
  exact ⟨a, b.symm, (qdd52 v).symm, c, by show 0 ≤ 0; decide⟩
noncomputable def nice52n : List (Nat × CF th.R) := (52, lift (fnC d52 ofV52 f52n)) :: nice62n
theorem nok52n : NiceOk Try.prog th nice52n := ⟨lift_sound s52n, nok62n⟩
set_option maxRecDepth 100000
noncomputable def f58c (v : V58) : Tr (Fin th.R) := .need (pre58 v) (.leaf (.slc 2 1 0 (blw v.M v.c v.at_).length, [.cells 175 [.ptr 1 0, .int .u64 v.f, .int .i64 v.c], .res v.M, .row 22 1 (blw v.M v.c v.at_).length (fun j => [.int .u64 ((blw v.M v.c v.at_).getD j 0)])], []))
theorem cw58 (v : V58) : fnC d58 ofV58 f58n (A58 v) (H58 v) = some ((f58n v).map (fixF (H58 v))) := by kernel_rfl
theorem s58c : Sound Try.prog th 58 (fnC d58 ofV58 f58c) := by
  refine fnC_direct (T := th) d58 A58 H58 toV58 (by kernel_rfl) (fun v => by kernel_rfl) ?_ ?_ (fun v _ => by show 2 ≤ 3; decide) (fun v _ n hn _ => ?_)
  · intro l v h
    unfold ofV58 at h
    split at h
    · cases h; rfl
    · cases h
  · intro v hok K w0 ρ w vargs I hr
    exact fnC_out s58n (cw58 v) ⟨hok.1, trivial⟩ I hr
  · have hn : n < 2 := hn
    rcases n with _ | _ | n
    · rfl
    · rfl
    · omega
noncomputable def nice12b : List (Nat × CF th.R) := nice52n
theorem nok12b : NiceOk Try.prog th nice12b := nok52n
noncomputable def nice12c : List (Nat × CF th.R) := (58, lift (fnC d58 ofV58 f58c)) :: nice12b
theorem nok12c : NiceOk Try.prog th nice12c := ⟨lift_sound s58c, nok12b⟩
set_option maxRecDepth 100000
structure V11 where
  L : Nat
  x : Int
  y : Int
  w : Int
  Q : Nat
  ob_ : Obj
  ok : Nat → Int
  oa : Nat → Int
  ob : Nat → Int
  kc : Nat → Int
  ac : Nat → Int
  bc : Nat → Int
  rc : Nat → Int
  gc : Nat → Int
  sc : Nat → Int
  mc : Nat → Int
def A11 (v : V11) : List SV := [.slc 0 10 0 v.L, .int .u64 v.x, .int .u64 v.y, .int .u64 v.w]
def H11 (v : V11) : List (HO th.R) := [.ro 85 10 v.Q (rw10 v.ok v.oa v.ob v.kc v.ac v.bc v.rc v.gc v.sc v.mc) v.ob_]
def toV11 (v : V11) : List (Vl th.R) := [.n v.L, .i v.x, .i v.y, .i v.w, .n v.Q, .o v.ob_, .c v.ok, .c v.oa, .c v.ob, .c v.kc, .c v.ac, .c v.bc, .c v.rc, .c v.gc, .c v.sc, .c v.mc]
def ofV11 : List (Vl th.R) → Option V11
  | [.n L, .i x, .i y, .i w, .n Q, .o ob_, .c ok, .c oa, .c ob, .c kc, .c ac, .c bc, .c rc, .c gc, .c sc, .c mc] => some ⟨L, x, y, w, Q, ob_, ok, oa, ob, kc, ac, bc, rc, gc, sc, mc⟩
  | _ => none
def d11 : Ft := ⟨[.slc0 0 10, .int .u64, .int .u64, .int .u64], [.roc 85 [.int .i64, .int .u64, .int .u64, .int .i64, .int .u64, .int .i64, .int .i64, .int .i64, .int .i64, .int .u64]]⟩
structure P11_0 where
  x1 : Int
  x2 : Int
  x3 : Int
  n29 : Nat
  x30 : Int
  N0 : Nat
  O0 : Obj
  F0_0 : Nat → Int
  F0_1 : Nat → Int
  F0_2 : Nat → Int
  F0_3 : Nat → Int
  F0_4 : Nat → Int
  F0_5 : Nat → Int
  F0_6 : Nat → Int
  F0_7 : Nat → Int
  F0_8 : Nat → Int
  F0_9 : Nat → Int
  xh3_0 : Int
structure S11_0 where
  x31 : Int
  xh1_1 : Int
  xh1_2 : Int
  R2 : th.R
noncomputable instance : Inhabited S11_0 := ⟨⟨0, 0, 0, dR⟩⟩
def I11_0 (p : P11_0) (s : S11_0) : St th.R := ⟨[none, some (.int .u64 p.x1), some (.int .u64 p.x2), some (.int .u64 p.x3), none, none, none, none, none, some (.ptr 1 0), none, none, none, none, none, none, none, none, none, none, none, none, none, none, none, none, none, none, none, some (.slc 0 10 0 p.n29), some (.int .i64 p.x30), some (.int .i64 s.x31), none, none, none, none, none, none, none, none, none, none, none, none, none, none, none, none, none, none, none, none, none, none, none, none, none, none, none, none, none, none, none, none, none, none, none, none, none, none, none, none, none, none, none, none, none, none, none, none, none, none, none, none, none, none, none, none, none, none, none, none, none, none, none, none, none, none, none, none, none, none, none, none, none, none, none, none, none, none, none, none, none, none, none, none, none, none, none, none, none, none, none, none, none], [.ro 85 10 p.N0 (rw10 p.F0_0 p.F0_1 p.F0_2 p.F0_3 p.F0_4 p.F0_5 p.F0_6 p.F0_7 p.F0_8 p.F0_9) p.O0, .cells 175 [.ptr 2 0, .int .u64 s.xh1_1, .int .i64 s.xh1_2], .res s.R2, .cells 55 [.int .u64 p.xh3_0, .nils]], [], []⟩
def d11_0 : Lp := ⟨⟨125, [(1, .int .u64), (2, .int .u64), (3, .int .u64), (9, .ptr 1 0), (29, .slc0 0 10), (30, .int .i64), (31, .int .i64)], [.roc 85 [.int .i64, .int .u64, .int .u64, .int .i64, .int .u64, .int .i64, .int .i64, .int .i64, .int .i64, .int .u64], .cells 175 [.ptr 2 0, .int .u64, .int .i64], .res, .cells 55 [.int .u64, .nils]]⟩, [], 4, [1, 2], [1, 2, 3, 9, 58, 59, 60, 61, 62, 65, 66, 67, 68, 69, 70, 71, 72, 75, 76, 77, 78, 79, 82, 83, 84, 85, 99, 100, 101, 102, 113, 114, 115, 116, 119, 120, 121, 122, 123], []⟩
def toV11_0 (p : P11_0) (s : S11_0) : List (Vl th.R) := [.i p.x1, .i p.x2, .i p.x3, .n p.n29, .i p.x30, .i s.x31, .n p.N0, .o p.O0, .c p.F0_0, .c p.F0_1, .c p.F0_2, .c p.F0_3, .c p.F0_4, .c p.F0_5, .c p.F0_6, .c p.F0_7, .c p.F0_8, .c p.F0_9, .i s.xh1_1, .i s.xh1_2, .r s.R2, .i p.xh3_0]
def ofV11_0 : List (Vl th.R) → Option (P11_0 × S11_0)
  | [.i x1, .i x2, .i x3, .n n29, .i x30, .i x31, .n N0, .o O0, .c F0_0, .c F0_1, .c F0_2, .c F0_3, .c F0_4, .c F0_5, .c F0_6, .c F0_7, .c F0_8, .c F0_9, .i xh1_1, .i xh1_2, .r R2, .i xh3_0] => some (⟨x1, x2, x3, n29, x30, N0, O0, F0_0, F0_1, F0_2, F0_3, F0_4, F0_5, F0_6, F0_7, F0_8, F0_9, xh3_0⟩, ⟨x31, xh1_1, xh1_2, R2⟩)
  | _ => none
noncomputable def e11_0_10 (p : P11_0) (s : S11_0) : (Nat) := (0:Nat) + s.x31.toNat
noncomputable def e11_0_11 (p : P11_0) (s : S11_0) : (Int) := p.F0_0 (e11_0_10 p s)
noncomputable def e11_0_12 (p : P11_0) (s : S11_0) : (Int) := p.F0_1 (e11_0_10 p s)
noncomputable def e11_0_13 (p : P11_0) (s : S11_0) : (Int) := p.F0_2 (e11_0_10 p s)
noncomputable def e11_0_14 (p : P11_0) (s : S11_0) : (Int) := p.F0_3 (e11_0_10 p s)
noncomputable def e11_0_15 (p : P11_0) (s : S11_0) : (Int) := p.F0_4 (e11_0_10 p s)
noncomputable def e11_0_16 (p : P11_0) (s : S11_0) : (Int) := p.F0_5 (e11_0_10 p s)
noncomputable def e11_0_17 (p : P11_0) (s : S11_0) : (Int) := p.F0_6 (e11_0_10 p s)
noncomputable def e11_0_18 (p : P11_0) (s : S11_0) : (Int) := p.F0_7 (e11_0_10 p s)
noncomputable def e11_0_19 (p : P11_0) (s : S11_0) : (Int) := p.F0_8 (e11_0_10 p s)
noncomputable def e11_0_20 (p : P11_0) (s : S11_0) : (Int) := p.F0_9 (e11_0_10 p s)
noncomputable def e11_0_21 (p : P11_0) (s : S11_0) : (TS) := dnT (TS.mk s.R2 s.xh1_1 s.xh1_2) (Op.mk (e11_0_11 p s) (e11_0_12 p s) (e11_0_13 p s) (Sl.mk (e11_0_14 p s) (e11_0_15 p s) (e11_0_16 p s) (e11_0_17 p s) (e11_0_18 p s) (e11_0_19 p s) (e11_0_20 p s) (0:Int) (0:Int) (0:Int)))
noncomputable def e11_0_0 (p : P11_0) (s : S11_0) : (Bool) := cnd (decide (s.x31 < p.x30)) false true
noncomputable def e11_0_1 (p : P11_0) (s : S11_0) : (Prop) := ∀ (i:Nat), scpL (0:Nat) ((rw10 p.F0_0 p.F0_1 p.F0_2 p.F0_3 p.F0_4 p.F0_5 p.F0_6 p.F0_7 p.F0_8 p.F0_9) i) = true
noncomputable def e11_0_2 (p : P11_0) (s : S11_0) : (Prop) := (0:Int) ≤ s.x31 ∧ s.x31 < (↑p.n29:Int)
noncomputable def e11_0_3 (p : P11_0) (s : S11_0) : (Prop) := e11_0_10 p s < p.N0
noncomputable def e11_0_4 (p : P11_0) (s : S11_0) : (Prop) := pre54 (V54.mk (e11_0_11 p s) (e11_0_12 p s) (e11_0_13 p s) (e11_0_14 p s) (e11_0_15 p s) (e11_0_16 p s) (e11_0_17 p s) (e11_0_18 p s) (e11_0_19 p s) (e11_0_20 p s) s.xh1_1 s.xh1_2 s.R2)
noncomputable def e11_0_5 (p : P11_0) (s : S11_0) : (Prop) := (∀ (i:Nat), scpL (0:Nat) ((rw10 p.F0_0 p.F0_1 p.F0_2 p.F0_3 p.F0_4 p.F0_5 p.F0_6 p.F0_7 p.F0_8 p.F0_9) i) = true) ∧ ∀ (i:Nat), i < p.N0 → (rw10 p.F0_0 p.F0_1 p.F0_2 p.F0_3 p.F0_4 p.F0_5 p.F0_6 p.F0_7 p.F0_8 p.F0_9) i = elC (rw10 p.F0_0 p.F0_1 p.F0_2 p.F0_3 p.F0_4 p.F0_5 p.F0_6 p.F0_7 p.F0_8 p.F0_9) (0:Nat) [Ck.int IntKind.i64, Ck.int IntKind.u64, Ck.int IntKind.u64, Ck.int IntKind.i64, Ck.int IntKind.u64, Ck.int IntKind.i64, Ck.int IntKind.i64, Ck.int IntKind.i64, Ck.int IntKind.i64, Ck.int IntKind.u64] i
noncomputable def e11_0_6 (p : P11_0) (s : S11_0) : (Int) := IntKind.i64.wrap (s.x31 + (1:Int))
noncomputable def e11_0_7 (p : P11_0) (s : S11_0) : (Int) := (e11_0_21 p s).f
noncomputable def e11_0_8 (p : P11_0) (s : S11_0) : (Int) := (e11_0_21 p s).c
noncomputable def e11_0_9 (p : P11_0) (s : S11_0) : (Mem) := (e11_0_21 p s).M
theorem n_e11_0_1 (p : P11_0) (s : S11_0) : e11_0_1 p s := by
  unfold e11_0_1
  (repeat' first | intro _ | apply And.intro) <;> first | rfl | exact absurd (by assumption) (Nat.not_lt_zero _) | exact scpL_rowSet (by rfl) (by rfl) | exact scpL_rowEl (by kernel_rfl) _ | omega | decide
theorem n_e11_0_5 (p : P11_0) (s : S11_0) : e11_0_5 p s := by
  unfold e11_0_5
  (repeat' first | intro _ | apply And.intro) <;> first | rfl | exact absurd (by assumption) (Nat.not_lt_zero _) | exact scpL_rowSet (by rfl) (by rfl) | exact scpL_rowEl (by kernel_rfl) _ | omega | decide
noncomputable def rf11_0 (p : P11_0) (s : S11_0) : Tr (Rs th.R S11_0) := (Tr.ite (e11_0_0 p s) (Tr.need (e11_0_1 p s) (Tr.leaf (Rs.out (Ex.exit (0:Nat)) [none, some (SV.int .u64 (p.x1)), some (SV.int .u64 (p.x2)), some (SV.int .u64 (p.x3)), none, none, none, none, none, (some (SV.ptr (1:Nat) (0:Nat))), none, none, none, none, none, none, none, none, none, none, none, none, none, none, none, none, none, none, none, none, none, none, none, none, none, none, none, none, none, none, none, none, none, none, none, none, none, none, none, none, none, none, none, none, none, none, none, none, none, none, none, none, none, none, none, none, none, none, none, none, none, none, none, none, none, none, none, none, none, none, none, none, none, none, none, none, none, none, none, none, none, none, none, none, none, none, none, none, none, none, none, none, none, none, none, none, none, none, none, none, none, none, none, none, none, none, none, none, none, none, none, none, none, none, none] [(HO.ro (85:Nat) (10:Nat) (p.N0) (rw10 p.F0_0 p.F0_1 p.F0_2 p.F0_3 p.F0_4 p.F0_5 p.F0_6 p.F0_7 p.F0_8 p.F0_9) (p.O0)), (HO.cells (175:Nat) [(SV.ptr (2:Nat) (0:Nat)), SV.int .u64 (s.xh1_1), SV.int .i64 (s.xh1_2)]), HO.res (s.R2), (HO.cells (55:Nat) [SV.int .u64 (p.xh3_0), SV.nils])]))) (Tr.need (e11_0_2 p s) (Tr.need (e11_0_3 p s) (Tr.need (e11_0_4 p s) (Tr.need (e11_0_5 p s) (Tr.leaf (Rs.on (S11_0.mk ((e11_0_6 p s)) ((e11_0_7 p s)) ((e11_0_8 p s)) ((e11_0_9 p s))))))))))
noncomputable def r11_0 (p : P11_0) (s : S11_0) : Tr (Rs th.R S11_0) := (Tr.ite (e11_0_0 p s) (Tr.leaf (Rs.out (Ex.exit (0:Nat)) [none, some (SV.int .u64 (p.x1)), some (SV.int .u64 (p.x2)), some (SV.int .u64 (p.x3)), none, none, none, none, none, (some (SV.ptr (1:Nat) (0:Nat))), none, none, none, none, none, none, none, none, none, none, none, none, none, none, none, none, none, none, none, none, none, none, none, none, none, none, none, none, none, none, none, none, none, none, none, none, none, none, none, none, none, none, none, none, none, none, none, none, none, none, none, none, none, none, none, none, none, none, none, none, none, none, none, none, none, none, none, none, none, none, none, none, none, none, none, none, none, none, none, none, none, none, none, none, none, none, none, none, none, none, none, none, none, none, none, none, none, none, none, none, none, none, none, none, none, none, none, none, none, none, none, none, none, none, none] [(HO.ro (85:Nat) (10:Nat) (p.N0) (rw10 p.F0_0 p.F0_1 p.F0_2 p.F0_3 p.F0_4 p.F0_5 p.F0_6 p.F0_7 p.F0_8 p.F0_9) (p.O0)), (HO.cells (175:Nat) [(SV.ptr (2:Nat) (0:Nat)), SV.int .u64 (s.xh1_1), SV.int .i64 (s.xh1_2)]), HO.res (s.R2), (HO.cells (55:Nat) [SV.int .u64 (p.xh3_0), SV.nils])])) (Tr.need (e11_0_2 p s) (Tr.need (e11_0_3 p s) (Tr.need (e11_0_4 p s) (Tr.leaf (Rs.on (S11_0.mk ((e11_0_6 p s)) ((e11_0_7 p s)) ((e11_0_8 p s)) ((e11_0_9 p s)))))))))
noncomputable def E11_0 : St th.R → Out th := evCode th Try.prog (auto th Try.prog nice12c [] 20) (autoH [] [] [] [] : Hints th) (lpAt Try.prog 11 0)
theorem B11_0 : CodeSound th Try.prog (lpAt Try.prog 11 0) E11_0 := evCode_sound (T := th) (P := Try.prog) (tbl := (auto th Try.prog nice12c [] 20)) (auto_sound (nice := nice12c) (us := []) nok12c 20) (autoH [] [] [] [] : Hints th) _ (LoopsOk_mem (fun _ => rfl) _ fun b hb L hL => by cases hL)
noncomputable def L11_0 : St th.R → Out th := loopL d11_0 ofV11_0 r11_0
theorem h1_11_0 (p : P11_0) (s : S11_0) : bld d11_0.tm (toV11_0 p s) = some (I11_0 p s) := by kernel_rfl
theorem h2_11_0 (l : List (Vl th.R)) (p : P11_0) (s : S11_0) (h : ofV11_0 l = some (p, s)) : l = toV11_0 p s := by
  unfold ofV11_0 at h
  split at h
  · cases h; rfl
  · cases h
theorem h3_11_0 (p : P11_0) (s : S11_0) : cvE d11_0 (E11_0 (I11_0 p s)) = some ((rf11_0 p s).map (Rs.map (toV11_0 p))) := by kernel_rfl
theorem h3g_11_0 (p : P11_0) (s : S11_0) : (rf11_0 p s).get = (r11_0 p s).get := by kernel_rfl
theorem h4_11_0 (p : P11_0) (s s1 : S11_0) : outH d11_0.dirt d11_0.n0 (r11_0 p s) = repH (maskH d11_0.dirt 0 d11_0.n0 (I11_0 p s1).heap) (r11_0 p s) := by kernel_rfl
theorem ls11_0 : CodeSound th Try.prog (.loop (lpAt Try.prog 11 0)) L11_0 := loopL_sound B11_0 d11_0 I11_0 toV11_0 (by kernel_rfl) h1_11_0 h2_11_0
  (fun p s => ⟨(rf11_0 p s).map (Rs.map (toV11_0 p)), h3_11_0 p s, fun h => by
    rw [Tr.map_ok]
    unfold r11_0 at h; unfold rf11_0
    simp only [Tr.ok, n_e11_0_1, n_e11_0_5, true_and, and_true, forall_const, implies_true] at h ⊢
    try exact h, by rw [Tr.map_get, h3g_11_0 p s]⟩) h4_11_0
theorem ok11 : LoopsOk th Try.prog (autoH [(9, L11_0)] [] [] [] : Hints th) (bodyOf Try.prog 11) := autoH_ok (bs := [lpAt Try.prog 11 0]) (by kernel_rfl) fun b hb L hL => by
  simp only [List.mem_cons, List.not_mem_nil, or_false] at hb
  rcases hb with rfl
  · have e : lookL [(9, L11_0)] (firstReg (lpAt Try.prog 11 0)) = some L11_0 := by kernel_rfl
    rw [e] at hL; cases hL
    exact ls11_0
noncomputable def f11_23 (v : V11) : (Bool) := decide ((↑v.L:Int) > (60:Int))
noncomputable def f11_24 (v : V11) : (S11_0) := lastS (r11_0 (P11_0.mk v.x v.y v.w v.L (↑v.L:Int) v.Q v.ob_ v.ok v.oa v.ob v.kc v.ac v.bc v.rc v.gc v.sc v.mc (65536:Int))) (S11_0.mk (0:Int) (0:Int) (0:Int) op0.fst.M)
noncomputable def f11_25 (v : V11) : (Int) := (f11_24 v).xh1_1
noncomputable def f11_26 (v : V11) : (Int) := (f11_24 v).xh1_2
noncomputable def f11_27 (v : V11) : (th.R) := (f11_24 v).R2
noncomputable def f11_28 (v : V11) : (TS) := TS.mk (f11_27 v) (f11_25 v) (f11_26 v)
noncomputable def f11_29 (v : V11) : (Bool) := chE (f11_28 v) v.x v.y (Sl.mk (8:Int) (128:Int) (7:Int) (0:Int) (0:Int) (0:Int) (0:Int) (0:Int) (0:Int) (0:Int)) != (0:Int)
noncomputable def f11_30 (v : V11) : (TS) := chT (f11_28 v) v.x v.y (Sl.mk (8:Int) (128:Int) (7:Int) (0:Int) (0:Int) (0:Int) (0:Int) (0:Int) (0:Int) (0:Int))
noncomputable def f11_31 (v : V11) : (Int) := (f11_30 v).f
noncomputable def f11_32 (v : V11) : (Int) := (f11_30 v).c
noncomputable def f11_33 (v : V11) : (Mem) := (f11_30 v).M
noncomputable def f11_34 (v : V11) : (Nat) := (blw (f11_33 v) (f11_32 v) v.x).length
noncomputable def f11_35 (v : V11) : (Int) := (↑(f11_34 v):Int)
noncomputable def f11_36 (v : V11) : (Bool) := f11_35 v == (0:Int)
noncomputable def f11_37 (v : V11) : (Bool) := cnd (f11_36 v) true ((blw (f11_33 v) (f11_32 v) v.x).getD (0:Nat) (0:Int) != v.y)
noncomputable def f11_38 (v : V11) : (Bool) := cnd (cnd (f11_37 v) true (dpE (f11_33 v) v.y != IntKind.i64.wrap (dpE (f11_33 v) v.x + (1:Int)))) true (f11_32 v != IntKind.i64.wrap (f11_26 v + (1:Int)))
noncomputable def f11_39 (v : V11) : (Bool) := cnd (f11_38 v) true !brB (f11_33 v) v.y
noncomputable def f11_40 (v : V11) : (TS) := TS.mk (f11_33 v) (f11_31 v) (f11_32 v)
noncomputable def f11_41 (v : V11) : (Bool) := mvE (f11_40 v) v.x v.w == (0:Int)
noncomputable def f11_42 (v : V11) : (TS) := mvT (f11_40 v) v.x v.w
noncomputable def f11_43 (v : V11) : (Int) := (f11_42 v).f
noncomputable def f11_44 (v : V11) : (Int) := (f11_42 v).c
noncomputable def f11_45 (v : V11) : (Mem) := (f11_42 v).M
noncomputable def f11_46 (v : V11) : (Nat) := (blw (f11_45 v) (f11_44 v) v.w).length
noncomputable def f11_47 (v : V11) : (Bool) := !decide (ls (fun (j:Nat) => (blw (f11_45 v) (f11_44 v) v.w).getD j (0:Int)) (f11_46 v) = ls (fun (j:Nat) => (blw (f11_33 v) (f11_32 v) v.x).getD j (0:Int)) (f11_34 v))
noncomputable def f11_48 (v : V11) : (Bool) := cnd (f11_41 v) (cnd (f11_47 v) true (dpE (f11_45 v) v.x != (-1:Int))) false
noncomputable def f11_49 (v : V11) : (Int) := cnd (f11_41 v) v.w v.x
noncomputable def f11_50 (v : V11) : (TS) := TS.mk (f11_45 v) (f11_43 v) (f11_44 v)
noncomputable def f11_51 (v : V11) : (TS) := rmT (f11_50 v) (f11_49 v)
noncomputable def f11_52 (v : V11) : (Int) := (f11_51 v).c
noncomputable def f11_53 (v : V11) : (Mem) := (f11_51 v).M
noncomputable def f11_0 (v : V11) : (Prop) := pre52 V52.mk
noncomputable def f11_1 (v : V11) : (Prop) := false = false → f11_23 v = false → pre53 V53.mk
noncomputable def f11_2 (v : V11) : (Prop) := false = false → f11_23 v = false → false = false → ∀ (i:Nat), i < v.Q → (rw10 v.ok v.oa v.ob v.kc v.ac v.bc v.rc v.gc v.sc v.mc) i = elC (rw10 v.ok v.oa v.ob v.kc v.ac v.bc v.rc v.gc v.sc v.mc) (0:Nat) [Ck.int IntKind.i64, Ck.int IntKind.u64, Ck.int IntKind.u64, Ck.int IntKind.i64, Ck.int IntKind.u64, Ck.int IntKind.i64, Ck.int IntKind.i64, Ck.int IntKind.i64, Ck.int IntKind.i64, Ck.int IntKind.u64] i
noncomputable def f11_3 (v : V11) : (Prop) := false = false → f11_23 v = false → false = false → LT (r11_0 (P11_0.mk v.x v.y v.w v.L (↑v.L:Int) v.Q v.ob_ v.ok v.oa v.ob v.kc v.ac v.bc v.rc v.gc v.sc v.mc (65536:Int))) (S11_0.mk (0:Int) (0:Int) (0:Int) op0.fst.M)
noncomputable def f11_4 (v : V11) : (Prop) := false = false → f11_23 v = false → false = false → pre56 (V56.mk v.x v.y (8:Int) (128:Int) (7:Int) (0:Int) (0:Int) (0:Int) (0:Int) (f11_25 v) (f11_26 v) (f11_27 v))
noncomputable def f11_5 (v : V11) : (Prop) := false = false → f11_23 v = false → false = false → f11_29 v = false → pre58 (V58.mk v.x (f11_31 v) (f11_32 v) (f11_33 v))
noncomputable def f11_6 (v : V11) : (Prop) := false = false → f11_23 v = false → false = false → f11_29 v = false → ∀ (i:Nat), scpL (0:Nat) ((fun (j:Nat) => [SV.int IntKind.u64 ((blw (f11_33 v) (f11_32 v) v.x).getD j (0:Int))]) i) = true
noncomputable def f11_7 (v : V11) : (Prop) := false = false → f11_23 v = false → false = false → f11_29 v = false → cnd (!f11_36 v) true false = true → (0:Int) ≤ (0:Int) ∧ (0:Int) < f11_35 v
noncomputable def f11_8 (v : V11) : (Prop) := false = false → f11_23 v = false → false = false → f11_29 v = false → cnd (!f11_36 v) true false = true → (0:Nat) < f11_34 v
noncomputable def f11_9 (v : V11) : (Prop) := false = false → f11_23 v = false → false = false → f11_29 v = false → cnd (!f11_37 v) true false = true → pre59 (V59.mk v.y (f11_31 v) (f11_32 v) (f11_33 v))
noncomputable def f11_10 (v : V11) : (Prop) := false = false → f11_23 v = false → false = false → f11_29 v = false → cnd (!f11_37 v) true false = true → pre59 (V59.mk v.x (f11_31 v) (f11_32 v) (f11_33 v))
noncomputable def f11_11 (v : V11) : (Prop) := false = false → f11_23 v = false → false = false → f11_29 v = false → cnd (!f11_38 v) true false = true → pre60 (V60.mk v.y (f11_31 v) (f11_32 v) (f11_33 v))
noncomputable def f11_12 (v : V11) : (Prop) := false = false → f11_23 v = false → false = false → f11_29 v = false → f11_39 v = false → pre61 (V61.mk v.x v.w (f11_31 v) (f11_32 v) (f11_33 v))
noncomputable def f11_13 (v : V11) : (Prop) := false = false → f11_23 v = false → false = false → f11_29 v = false → f11_39 v = false → f11_41 v = true → pre58 (V58.mk v.w (f11_43 v) (f11_44 v) (f11_45 v))
noncomputable def f11_14 (v : V11) : (Prop) := false = false → f11_23 v = false → false = false → f11_29 v = false → f11_39 v = false → f11_41 v = true → ∀ (i:Nat), scpL (0:Nat) ((fun (j:Nat) => [SV.int IntKind.u64 ((blw (f11_45 v) (f11_44 v) v.w).getD j (0:Int))]) i) = true
noncomputable def f11_15 (v : V11) : (Prop) := false = false → f11_23 v = false → false = false → f11_29 v = false → f11_39 v = false → f11_41 v = true → (∀ (i:Nat), scpL (0:Nat) ((fun (j:Nat) => [SV.int IntKind.u64 ((blw (f11_45 v) (f11_44 v) v.w).getD j (0:Int))]) i) = true) ∧ ∀ (i:Nat), scpL (0:Nat) ((fun (j:Nat) => [SV.int IntKind.u64 ((blw (f11_33 v) (f11_32 v) v.x).getD j (0:Int))]) i) = true
noncomputable def f11_16 (v : V11) : (Prop) := false = false → f11_23 v = false → false = false → f11_29 v = false → f11_39 v = false → f11_41 v = true → (∀ (i:Nat), i < f11_46 v → (fun (j:Nat) => [SV.int IntKind.u64 ((blw (f11_45 v) (f11_44 v) v.w).getD j (0:Int))]) i = elC (fun (j:Nat) => [SV.int IntKind.u64 ((blw (f11_45 v) (f11_44 v) v.w).getD j (0:Int))]) (0:Nat) [Ck.int IntKind.u64] i) ∧ ∀ (i:Nat), i < f11_34 v → (fun (j:Nat) => [SV.int IntKind.u64 ((blw (f11_33 v) (f11_32 v) v.x).getD j (0:Int))]) i = elC (fun (j:Nat) => [SV.int IntKind.u64 ((blw (f11_33 v) (f11_32 v) v.x).getD j (0:Int))]) (0:Nat) [Ck.int IntKind.u64] i
noncomputable def f11_17 (v : V11) : (Prop) := false = false → f11_23 v = false → false = false → f11_29 v = false → f11_39 v = false → f11_41 v = true → pre62 (V62.mk (f11_46 v) (f11_34 v) (f11_46 v) (fun (j:Nat) => (blw (f11_45 v) (f11_44 v) v.w).getD j (0:Int)) (f11_34 v) fun (j:Nat) => (blw (f11_33 v) (f11_32 v) v.x).getD j (0:Int))
noncomputable def f11_18 (v : V11) : (Prop) := false = false → f11_23 v = false → false = false → f11_29 v = false → f11_39 v = false → f11_41 v = true → cnd (!f11_47 v) true false = true → pre59 (V59.mk v.x (f11_43 v) (f11_44 v) (f11_45 v))
noncomputable def f11_19 (v : V11) : (Prop) := false = false → f11_23 v = false → false = false → f11_29 v = false → f11_39 v = false → f11_48 v = false → pre59 (V59.mk (f11_49 v) (f11_43 v) (f11_44 v) (f11_45 v))
noncomputable def f11_20 (v : V11) : (Prop) := false = false → f11_23 v = false → false = false → f11_29 v = false → f11_39 v = false → f11_48 v = false → pre63 (V63.mk (f11_49 v) (f11_43 v) (f11_44 v) (f11_45 v))
noncomputable def f11_21 (v : V11) : (Prop) := false = false → f11_23 v = false → false = false → f11_29 v = false → f11_39 v = false → f11_48 v = false → cnd (cnd (rmE (f11_50 v) (f11_49 v) == (0:Int)) (f11_52 v == f11_26 v) false) true false = true → pre59 (V59.mk v.y (f11_51 v).f (f11_52 v) (f11_53 v))
noncomputable def f11_22 (v : V11) : (Bool) := cnd (f11_23 v) true (cnd (f11_29 v) (f11_32 v == f11_26 v) (cnd (f11_39 v) false (cnd (f11_48 v) false (cnd (cnd (rmE (f11_50 v) (f11_49 v) == (0:Int)) (f11_52 v == f11_26 v) false) (dpE (f11_53 v) v.y == dpE (f11_45 v) (f11_49 v)) false))))
theorem n_f11_2 (v : V11) : f11_2 v := by
  unfold f11_2
  (repeat' first | intro _ | apply And.intro) <;> first | rfl | exact absurd (by assumption) (Nat.not_lt_zero _) | exact scpL_rowSet (by rfl) (by rfl) | exact scpL_rowEl (by kernel_rfl) _ | omega | decide
theorem n_f11_6 (v : V11) : f11_6 v := by
  unfold f11_6
  (repeat' first | intro _ | apply And.intro) <;> first | rfl | exact absurd (by assumption) (Nat.not_lt_zero _) | exact scpL_rowSet (by rfl) (by rfl) | exact scpL_rowEl (by kernel_rfl) _ | omega | decide
theorem n_f11_14 (v : V11) : f11_14 v := by
  unfold f11_14
  (repeat' first | intro _ | apply And.intro) <;> first | rfl | exact absurd (by assumption) (Nat.not_lt_zero _) | exact scpL_rowSet (by rfl) (by rfl) | exact scpL_rowEl (by kernel_rfl) _ | omega | decide
theorem n_f11_15 (v : V11) : f11_15 v := by
  unfold f11_15
  (repeat' first | intro _ | apply And.intro) <;> first | rfl | exact absurd (by assumption) (Nat.not_lt_zero _) | exact scpL_rowSet (by rfl) (by rfl) | exact scpL_rowEl (by kernel_rfl) _ | omega | decide
theorem n_f11_16 (v : V11) : f11_16 v := by
  unfold f11_16
  (repeat' first | intro _ | apply And.intro) <;> first | rfl | exact absurd (by assumption) (Nat.not_lt_zero _) | exact scpL_rowSet (by rfl) (by rfl) | exact scpL_rowEl (by kernel_rfl) _ | omega | decide
noncomputable def ff11 (v : V11) : Tr (Fin th.R) := (Tr.need (f11_0 v) (Tr.need (f11_1 v) (Tr.need (f11_2 v) (Tr.need (f11_3 v) (Tr.need (f11_4 v) (Tr.need (f11_5 v) (Tr.need (f11_6 v) (Tr.need (f11_7 v) (Tr.need (f11_8 v) (Tr.need (f11_9 v) (Tr.need (f11_10 v) (Tr.need (f11_11 v) (Tr.need (f11_12 v) (Tr.need (f11_13 v) (Tr.need (f11_14 v) (Tr.need (f11_15 v) (Tr.need (f11_16 v) (Tr.need (f11_17 v) (Tr.need (f11_15 v) (Tr.need (f11_18 v) (Tr.need (f11_19 v) (Tr.need (f11_20 v) (Tr.need (f11_21 v) (Tr.leaf (SV.bool (f11_22 v), [(HO.ro (85:Nat) (10:Nat) (v.Q) (rw10 v.ok v.oa v.ob v.kc v.ac v.bc v.rc v.gc v.sc v.mc) (v.ob_))], List.nil)))))))))))))))))))))))))
noncomputable def f11 (v : V11) : Tr (Fin th.R) := (Tr.need (f11_0 v) (Tr.need (f11_1 v) (Tr.need (f11_3 v) (Tr.need (f11_4 v) (Tr.need (f11_5 v) (Tr.need (f11_7 v) (Tr.need (f11_8 v) (Tr.need (f11_9 v) (Tr.need (f11_10 v) (Tr.need (f11_11 v) (Tr.need (f11_12 v) (Tr.need (f11_13 v) (Tr.need (f11_17 v) (Tr.need (f11_18 v) (Tr.need (f11_19 v) (Tr.need (f11_20 v) (Tr.need (f11_21 v) (Tr.leaf (SV.bool (f11_22 v), [(HO.ro (85:Nat) (10:Nat) (v.Q) (fun j => [SV.int .i64 (v.ok j), SV.int .u64 (v.oa j), SV.int .u64 (v.ob j), SV.int .i64 (v.kc j), SV.int .u64 (v.ac j), SV.int .i64 (v.bc j), SV.int .i64 (v.rc j), SV.int .i64 (v.gc j), SV.int .i64 (v.sc j), SV.int .u64 (v.mc j)]) (v.ob_))], [])))))))))))))))))))
noncomputable def C11 : CF th.R := fnC d11 ofV11 (f11 )
theorem q11 (v : V11) : (evFn th Try.prog (auto th Try.prog nice12c [] 20) (autoH [(9, L11_0)] [] [] [] : Hints th) 11) (A11 v) (H11 v) = some (ff11 v) := by kernel_rfl
theorem qg11 (v : V11) : ((ff11 v).map (setD [])).get = (f11 v).get := by kernel_rfl
theorem qd11 (v : V11) : allD 1 [] (ff11 v) = true := by kernel_rfl
theorem s11 : Sound Try.prog th 11 (C11 ) := fnC_sound (evFn_sound' (T := th) (P := Try.prog) (tbl := (auto th Try.prog nice12c [] 20)) (auto_sound (nice := nice12c) (us := []) nok12c 20) (H := (autoH [(9, L11_0)] [] [] [] : Hints th)) (k := 11) (fnLoops ok11)) d11 A11 H11 toV11 (by kernel_rfl) (fun v => by kernel_rfl)
  (fun l v h => by
    unfold ofV11 at h
    split at h
    · cases h; rfl
    · cases h)
  [] (fun v => ⟨ff11 v, q11 v, fun h => by
    unfold f11 at h; unfold ff11
    simp only [Tr.ok, n_f11_2, n_f11_6, n_f11_14, n_f11_15, n_f11_16, true_and, and_true, forall_const, implies_true] at h ⊢
    try exact h, qg11 v, qd11 v⟩)
theorem qdd11 (v : V11) : (f11 v).get.2.2 = [] := by
  rw [← qg11, Tr.map_get]; rfl
set_option maxRecDepth 100000
structure S114_0 where
  x26 : Int
  R2 : th.R
  n6_1 : Nat
  xh4_1 : Int
  xh4_2 : Int
  N5 : Nat
  F5_0 : Nat → Int
  F5_1 : Nat → Int
  F5_2 : Nat → Int
  F5_3 : Nat → Int
  F5_4 : Nat → Int
  F5_5 : Nat → Int
  F5_6 : Nat → Int
  F5_7 : Nat → Int
  F5_8 : Nat → Int
noncomputable instance : Inhabited S114_0 := ⟨⟨0, dR, 0, 0, 0, 0, fun _ => 0, fun _ => 0, fun _ => 0, fun _ => 0, fun _ => 0, fun _ => 0, fun _ => 0, fun _ => 0, fun _ => 0⟩⟩
set_option maxRecDepth 100000
set_option maxRecDepth 100000
set_option maxRecDepth 100000
set_option maxRecDepth 100000
structure V47 where
  k : Int
  a : Int
  b : Int
  r : Int
  g : Int
  s : Int
  m : Int
  x : Int
noncomputable def f47_9 (v : V47) : (Bool) := !f45_1 v.k v.a v.b v.r v.g v.s v.m
noncomputable def f47_10 (v : V47) : (Bool) := cnd (v.k == (9:Int)) (v.m != (0:Int)) false
noncomputable def f47_11 (v : V47) : (Int) := cnd (v.k == (9:Int)) v.k (cnd (v.k == (2:Int)) v.k v.k)
noncomputable def f47_12 (v : V47) : (Int) := cnd (v.k == (9:Int)) v.a (cnd (v.k == (2:Int)) v.a v.a)
noncomputable def f47_13 (v : V47) : (Int) := cnd (v.k == (9:Int)) v.b (cnd (v.k == (2:Int)) v.b v.b)
noncomputable def f47_14 (v : V47) : (Int) := cnd (v.k == (9:Int)) v.r (cnd (v.k == (2:Int)) v.r v.r)
noncomputable def f47_15 (v : V47) : (Int) := cnd (v.k == (9:Int)) v.g (cnd (v.k == (2:Int)) (IntKind.i64.wrap (Go.bits Go.BinOp.and IntKind.u64 v.x (63:Int))) v.g)
noncomputable def f47_16 (v : V47) : (Int) := cnd (v.k == (9:Int)) v.s (cnd (v.k == (2:Int)) v.s v.s)
noncomputable def f47_17 (v : V47) : (Int) := cnd (v.k == (9:Int)) v.x (cnd (v.k == (2:Int)) (v.x.fdiv (64:Int)) v.m)
noncomputable def f47_1 (v : V47) : (Int) := cnd (f47_9 v) (0:Int) (cnd (f47_10 v) (0:Int) (cnd (cnd (v.k == (9:Int)) false (cnd (v.k == (2:Int)) false (v.x != (0:Int)))) (0:Int) (cnd (!f45_1 (f47_11 v) (f47_12 v) (f47_13 v) (f47_14 v) (f47_15 v) (f47_16 v) (f47_17 v)) (0:Int) (f47_11 v))))
noncomputable def f47_2 (v : V47) : (Int) := cnd (f47_9 v) (0:Int) (cnd (f47_10 v) (0:Int) (cnd (cnd (v.k == (9:Int)) false (cnd (v.k == (2:Int)) false (v.x != (0:Int)))) (0:Int) (cnd (!f45_1 (f47_11 v) (f47_12 v) (f47_13 v) (f47_14 v) (f47_15 v) (f47_16 v) (f47_17 v)) (0:Int) (f47_12 v))))
noncomputable def f47_3 (v : V47) : (Int) := cnd (f47_9 v) (0:Int) (cnd (f47_10 v) (0:Int) (cnd (cnd (v.k == (9:Int)) false (cnd (v.k == (2:Int)) false (v.x != (0:Int)))) (0:Int) (cnd (!f45_1 (f47_11 v) (f47_12 v) (f47_13 v) (f47_14 v) (f47_15 v) (f47_16 v) (f47_17 v)) (0:Int) (f47_13 v))))
noncomputable def f47_4 (v : V47) : (Int) := cnd (f47_9 v) (0:Int) (cnd (f47_10 v) (0:Int) (cnd (cnd (v.k == (9:Int)) false (cnd (v.k == (2:Int)) false (v.x != (0:Int)))) (0:Int) (cnd (!f45_1 (f47_11 v) (f47_12 v) (f47_13 v) (f47_14 v) (f47_15 v) (f47_16 v) (f47_17 v)) (0:Int) (f47_14 v))))
noncomputable def f47_5 (v : V47) : (Int) := cnd (f47_9 v) (0:Int) (cnd (f47_10 v) (0:Int) (cnd (cnd (v.k == (9:Int)) false (cnd (v.k == (2:Int)) false (v.x != (0:Int)))) (0:Int) (cnd (!f45_1 (f47_11 v) (f47_12 v) (f47_13 v) (f47_14 v) (f47_15 v) (f47_16 v) (f47_17 v)) (0:Int) (f47_15 v))))
noncomputable def f47_6 (v : V47) : (Int) := cnd (f47_9 v) (0:Int) (cnd (f47_10 v) (0:Int) (cnd (cnd (v.k == (9:Int)) false (cnd (v.k == (2:Int)) false (v.x != (0:Int)))) (0:Int) (cnd (!f45_1 (f47_11 v) (f47_12 v) (f47_13 v) (f47_14 v) (f47_15 v) (f47_16 v) (f47_17 v)) (0:Int) (f47_16 v))))
noncomputable def f47_7 (v : V47) : (Int) := cnd (f47_9 v) (0:Int) (cnd (f47_10 v) (0:Int) (cnd (cnd (v.k == (9:Int)) false (cnd (v.k == (2:Int)) false (v.x != (0:Int)))) (0:Int) (cnd (!f45_1 (f47_11 v) (f47_12 v) (f47_13 v) (f47_14 v) (f47_15 v) (f47_16 v) (f47_17 v)) (0:Int) (f47_17 v))))
set_option maxRecDepth 100000
set_option maxRecDepth 100000
set_option maxRecDepth 100000
noncomputable def mkC (z : Sl) (x:Int) : Sl := ⟨f47_1 ⟨z.k, z.a, z.b, z.r, z.g, z.s, z.m, x⟩, f47_2 ⟨z.k, z.a, z.b, z.r, z.g, z.s, z.m, x⟩, f47_3 ⟨z.k, z.a, z.b, z.r, z.g, z.s, z.m, x⟩, f47_4 ⟨z.k, z.a, z.b, z.r, z.g, z.s, z.m, x⟩,
  f47_5 ⟨z.k, z.a, z.b, z.r, z.g, z.s, z.m, x⟩, f47_6 ⟨z.k, z.a, z.b, z.r, z.g, z.s, z.m, x⟩, f47_7 ⟨z.k, z.a, z.b, z.r, z.g, z.s, z.m, x⟩, 0, 0, 0⟩
def selS (c : Bool) (A B : Sl) : Sl := ⟨cnd c A.k B.k, cnd c A.a B.a, cnd c A.b B.b, cnd c A.r B.r, cnd c A.g B.g, cnd c A.s B.s, cnd c A.m B.m, 0, 0, 0⟩
set_option maxRecDepth 100000
set_option maxRecDepth 100000
set_option maxRecDepth 100000
set_option maxRecDepth 100000
set_option maxRecDepth 100000
end Go.Sx.M

