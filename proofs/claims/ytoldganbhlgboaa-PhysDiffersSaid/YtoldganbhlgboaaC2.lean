/- Contracts of the functions of this seat, each by the executor and the kernel; part 2. Their conditions stand in each. -/
import Derived.Test.YtoldganbhlgboaaC1
import Derived.Sort.AssemblyPlain
import Derived.Sort.Walk13
import Derived.Sort.WalkA14
import Derived.Sort.Walk11
import Derived.Sort.WalkC4
import Derived.Sort.WalkA6
import Derived.Sort.Walk7
import Derived.Lib.BitFns
set_option linter.unusedVariables false
set_option linter.unusedSimpArgs false
namespace Go.Sx.M
open Go Go.Sx

end Go.Sx.M

namespace Go.Sx.M
open Go Go.Sx

end Go.Sx.M

namespace Go.Sx.M
open Go Go.Sx

end Go.Sx.M

namespace Go.Sx.M
open Go Go.Sx

end Go.Sx.M

namespace Go.Sx.M
open Go Go.Sx

end Go.Sx.M

namespace Go.Sx.M
open Go Go.Sx
structure Sl where
  k : Int
  a : Int
  b : Int
  r : Int
  g : Int
  s : Int
  m : Int
  x : Int
  p : Int
  d : Int
  deriving DecidableEq
def U64 (a:Int) : Prop := 0 ≤ a ∧ a < 18446744073709551616
def I64 (a:Int) : Prop := -9223372036854775808 ≤ a ∧ a < 9223372036854775808
structure SlR (z : Sl) : Prop where
  k : I64 z.k
  a : U64 z.a
  b : I64 z.b
  r : I64 z.r
  g : I64 z.g
  s : I64 z.s
  m : U64 z.m
  x : U64 z.x
  p : U64 z.p
  d : I64 z.d
end Go.Sx.M

namespace Go.Sx.M
open Go Go.Sx Go.Proofs Go.RowKit
set_option maxRecDepth 100000
noncomputable def ld (M : Mem) (a:Int) : Sl := ⟨f29_14 ⟨a, M⟩, f29_15 ⟨a, M⟩, f29_16 ⟨a, M⟩, f29_17 ⟨a, M⟩, f29_18 ⟨a, M⟩, f29_19 ⟨a, M⟩, f29_20 ⟨a, M⟩, f29_21 ⟨a, M⟩, f29_22 ⟨a, M⟩, f29_23 ⟨a, M⟩⟩
set_option maxRecDepth 100000
end Go.Sx.M

namespace Go.Sx.M
open Go Go.Sx
theorem i0 : I64 0 := by unfold I64; omega
theorem u0 : U64 0 := by unfold U64; omega
theorem SlR.setD {z : Sl} (h : SlR z) {y : Int} (hy : I64 y) : SlR { z with d := y } := ⟨h.k, h.a, h.b, h.r, h.g, h.s, h.m, h.x, h.p, hy⟩
theorem SlR.fresh {c : Sl} (h : SlR c) {d : Int} (hd : I64 d) : SlR { c with x := 0, p := 0, d := d } := ⟨h.k, h.a, h.b, h.r, h.g, h.s, h.m, u0, u0, hd⟩
end Go.Sx.M

namespace Go.Sx.M
open Go Go.Sx
end Go.Sx.M

namespace Go.Sx.M
open Go Go.Sx Go.Proofs Go.RowKit
theorem cnd_id (c : Bool) : cnd c true false = c := by cases c <;> rfl
theorem wi {x : Int} (h1 : -9223372036854775808 ≤ x) (h2 : x < 9223372036854775808) : IntKind.i64.wrap x = x := wrap_i64 h1 h2
theorem LT.post {R S : Type} [Inhabited S] {f : S → Tr (Rs R S)} (V Q : S → Prop) (μ : S → Nat)
    (h : ∀ s, V s → (f s).ok ∧ (((∃ ex sl hp, (f s).get = .out ex sl hp) ∧ Q s) ∨ ∃ s', (f s).get = .on s' ∧ V s' ∧ μ s' < μ s)) {s : S} (hs : V s) : LT f s ∧ Q (lastS f s) := by
  generalize hm : μ s = m
  induction m using Nat.strongRecOn generalizing s with
  | ind m ih =>
    obtain ⟨h1, ⟨⟨ex, sl, hp, h2⟩, h5⟩ | ⟨s', h2, h3, h4⟩⟩ := h s hs
    · exact ⟨.out h1 h2, by rw [lastS_out h2]; exact h5⟩
    · obtain ⟨a, b⟩ := ih (μ s') (by omega) h3 rfl
      exact ⟨.on h1 h2 a, by rw [lastS_on h2]; exact b⟩
structure Nd where
  t : Int
  k : Int
  a : Int
  b : Int
  r : Int
  g : Int
  s : Int
  m : Int
  d : Int
deriving DecidableEq
def nd0 : Nd := ⟨0, 0, 0, 0, 0, 0, 0, 0, 0⟩
def ndC (x : Nd) : List SV := [.int .u64 x.t, .int .i64 x.k, .int .u64 x.a, .int .i64 x.b, .int .i64 x.r, .int .i64 x.g, .int .i64 x.s, .int .u64 x.m, .int .i64 x.d]
def gN (l : List Nd) (j:Nat) : Nd := l.getD j nd0
def rowN {R : Type} (l : List Nd) : HO R := .row 100 9 l.length (fun j => ndC (gN l j))
end Go.Sx.M

section
namespace Go.Sx.M
open Go Go.Sx Go.Proofs Go.RowKit
def ls (F : Nat → Int) (n:Nat) : List Int := (List.range n).map F
theorem ls_len (F : Nat → Int) (n:Nat) : (ls F n).length = n := by simp [ls]
end Go.Sx.M

end

section
namespace Go.Sx.M
open Go Go.Sx Go.Sort
/-! ### A row as an array -/
def ar (F : Nat → Int) (n:Nat) : Array Int := ((List.range n).map F).toArray
def gt (d : Array Int) (j:Nat) : Int := d[j]!
theorem ar_size (F : Nat → Int) (n:Nat) : (ar F n).size = n := by simp [ar]
theorem ar_get {F : Nat → Int} {n i : Nat} (h : i < n) : (ar F n)[i]! = F i := by
  have : i < (ar F n).size := by rw [ar_size]; exact h
  rw [getElem!_pos (ar F n) i this]
  simp [ar]
theorem gt_ar {F : Nat → Int} {n i : Nat} (h : i < n) : gt (ar F n) i = F i := ar_get h
def swF (F : Nat → Int) (i j:Nat) : Nat → Int := fun k => cnd (Nat.beq k j) (F i) (cnd (Nat.beq k i) (F j) (F k))
theorem ar_swp {F : Nat → Int} {n i j : Nat} (hi : i < n) (hj : j < n) : swp (ar F n) i j = ar (swF F i j) n := by
  unfold swp
  rw [ar_get hi, ar_get hj]
  apply Array.ext
  · simp [ar_size]
  · intro k h1 h2
    rw [ar_size] at h2
    rw [← getElem!_pos (ar (swF F i j) n) k (by rw [ar_size]; exact h2), ar_get h2]
    have h3 : k < (ar F n).size := by rw [ar_size]; exact h2
    rw [Array.getElem_setIfInBounds (by simpa using h3), Array.getElem_setIfInBounds h3]
    have h4 : (ar F n)[k] = F k := by rw [← getElem!_pos (ar F n) k h3, ar_get h2]
    unfold swF
    by_cases e1 : j = k
    · subst e1
      have : Nat.beq j j = true := by simp
      rw [this]; simp [cnd]
    · have q1 : Nat.beq k j = false := by
        cases hq : Nat.beq k j with
        | false => rfl
        | true => exact absurd (Nat.eq_of_beq_eq_true hq).symm e1
      rw [if_neg e1, q1]
      by_cases e2 : i = k
      · subst e2
        have : Nat.beq i i = true := by simp
        rw [this]; simp [cnd]
      · have q2 : Nat.beq k i = false := by
          cases hq : Nat.beq k i with
          | false => rfl
          | true => exact absurd (Nat.eq_of_beq_eq_true hq).symm e2
        rw [if_neg e2, q2, h4]
        simp [cnd]
theorem HOw_ar {R : Type} {F : Nat → Int} {N n : Nat} {d : Array Int} (h : N = n) (hd : ar F n = d) : HOw (.row 22 1 N (fun j => [.int .u64 (F j)]) : HO R) (.row 22 1 n (fun j => [.int .u64 (gt d j)])) := by
  subst h hd
  exact .row fun j hj => by rw [gt_ar hj]
theorem lt_ar {F : Nat → Int} {n i j : Nat} (hi : i < n) (hj : j < n) : ltInt (ar F n)[i]! (ar F n)[j]! = decide (F i < F j) := by
  rw [ar_get hi, ar_get hj]; rfl
end Go.Sx.M

end

namespace Go.Sx.M
open Go Go.Sx Go.Proofs Go.RowKit
set_option maxRecDepth 100000
def pre204 (v : V204) : Prop := True
theorem n204 (v : V204) (h : pre204 v) : (f204 v).ok ∧ (f204 v).get.1 = .bool (decide (v.x < v.y)) ∧ HOws (f204 v).get.2.1 [] := by
  refine ⟨trivial, ?_, .refl _⟩
  simp only [f204, Tr.get, f204_0, f219_0]
  simp [cnd]
noncomputable def f204n (v : V204) : Tr (Fin th.R) := .need (pre204 v) (.leaf (.bool (decide (v.x < v.y)), [], []))
theorem s204n : Sound Try.prog th 204 (fnC d204 ofV204 f204n) := fnC_refine s204 fun v h => by
  obtain ⟨hp, _⟩ := h
  obtain ⟨a, b, c⟩ := n204 v hp
  exact ⟨a, b.symm, (qdd204 v).symm, c, by show 0 ≤ 0; decide⟩
noncomputable def nice204n : List (Nat × CF th.R) := (204, lift (fnC d204 ofV204 f204n)) :: nice219
theorem nok204n : NiceOk Try.prog th nice204n := ⟨lift_sound s204n, nok219⟩
set_option maxRecDepth 100000
structure V159 where
  L : Nat
  Q : Nat
  F : Nat → Int
def A159 (v : V159) : List SV := [.slc 0 1 0 v.L]
def H159 (v : V159) : List (HO th.R) := [.row 22 1 v.Q (fun j => [.int .u64 (v.F j)])]
def toV159 (v : V159) : List (Vl th.R) := [.n v.L, .n v.Q, .c v.F]
def ofV159 : List (Vl th.R) → Option V159
  | [.n L, .n Q, .c F] => some ⟨L, Q, F⟩
  | _ => none
def d159 : Ft := ⟨[.slc0 0 1], [.rowc 22 [.int .u64]]⟩
structure P159_1 where
  n0 : Nat
  l4 : Nat
  n4 : Nat
structure S159_1 where
  x3 : Int
  x5 : Int
  N0 : Nat
  F0_0 : Nat → Int
noncomputable instance : Inhabited S159_1 := ⟨⟨0, 0, 0, fun _ => 0⟩⟩
def I159_1 (p : P159_1) (s : S159_1) : St th.R := ⟨[some (.slc 0 1 0 p.n0), none, none, some (.int .i64 s.x3), some (.slc 0 1 p.l4 p.n4), some (.int .i64 s.x5), none, none, none, none, none, none, none, none, none, none, none, none, none, none, none, none, none, none, none, none, none, none, none, none, none, none, none, none, none, none, none, none, none, none, none, none, none, none, none, none, none, none, none, none, none, none, none, none, none, none, none, none, none, none, none], [.row 22 1 s.N0 (fun j => [.int .u64 (s.F0_0 j)])], [], []⟩
def d159_1 : Lp := ⟨⟨61, [(0, .slc0 0 1), (3, .int .i64), (4, .slc 0 1), (5, .int .i64)], [.rowc 22 [.int .u64]]⟩, [], 1, [0], [0, 3], []⟩
def toV159_1 (p : P159_1) (s : S159_1) : List (Vl th.R) := [.n p.n0, .i s.x3, .n p.l4, .n p.n4, .i s.x5, .n s.N0, .c s.F0_0]
def ofV159_1 : List (Vl th.R) → Option (P159_1 × S159_1)
  | [.n n0, .i x3, .n l4, .n n4, .i x5, .n N0, .c F0_0] => some (⟨n0, l4, n4⟩, ⟨x3, x5, N0, F0_0⟩)
  | _ => none
noncomputable def e159_1_12 (p : P159_1) (s : S159_1) : (Int) := IntKind.i64.wrap (s.x5 - (1:Int))
noncomputable def e159_1_13 (p : P159_1) (s : S159_1) : (Nat) := p.l4 + (e159_1_12 p s).toNat
noncomputable def e159_1_14 (p : P159_1) (s : S159_1) : (Int) := s.F0_0 (p.l4 + s.x5.toNat)
noncomputable def e159_1_15 (p : P159_1) (s : S159_1) : (Bool) := e159_1_14 p s != s.F0_0 (e159_1_13 p s)
noncomputable def e159_1_16 (p : P159_1) (s : S159_1) : (Nat) := (0:Nat) + s.x3.toNat
noncomputable def e159_1_17 (p : P159_1) (s : S159_1) : (Nat) := cnd (e159_1_15 p s) s.N0 s.N0
noncomputable def e159_1_0 (p : P159_1) (s : S159_1) : (Bool) := cnd (decide (s.x5 < (↑p.n4:Int))) false true
noncomputable def e159_1_1 (p : P159_1) (s : S159_1) : (Prop) := ∀ (i:Nat), scpL (0:Nat) ((fun (j:Nat) => [SV.int IntKind.u64 (s.F0_0 j)]) i) = true
noncomputable def e159_1_2 (p : P159_1) (s : S159_1) : (Prop) := (true = true → (0:Int) ≤ s.x5 ∧ s.x5 < (↑p.n4:Int)) ∧ (true = true → p.l4 + s.x5.toNat < s.N0) ∧ (true = true → (0:Int) ≤ e159_1_12 p s ∧ e159_1_12 p s < (↑p.n4:Int)) ∧ (true = true → e159_1_13 p s < s.N0)
noncomputable def e159_1_3 (p : P159_1) (s : S159_1) : (Prop) := e159_1_15 p s = true → (0:Int) ≤ s.x5 ∧ s.x5 < (↑p.n4:Int)
noncomputable def e159_1_4 (p : P159_1) (s : S159_1) : (Prop) := e159_1_15 p s = true → p.l4 + s.x5.toNat < s.N0
noncomputable def e159_1_5 (p : P159_1) (s : S159_1) : (Prop) := e159_1_15 p s = true → (0:Int) ≤ s.x3 ∧ s.x3 < (↑p.n0:Int)
noncomputable def e159_1_6 (p : P159_1) (s : S159_1) : (Prop) := e159_1_15 p s = true → e159_1_16 p s < s.N0 ∧ (1:Nat) = (1:Nat)
noncomputable def e159_1_7 (p : P159_1) (s : S159_1) : (Prop) := (∀ (i:Nat), scpL (0:Nat) ((fun (i:Nat) => rowSet (e159_1_15 p s) ((fun (j:Nat) => rowSet (j.beq (e159_1_16 p s)) (splice ((fun (j:Nat) => [SV.int IntKind.u64 (s.F0_0 j)]) (e159_1_16 p s)) (0:Nat) (SV.int IntKind.u64 (e159_1_14 p s)).cells) ((fun (j:Nat) => [SV.int IntKind.u64 (s.F0_0 j)]) j)) i) ((fun (j:Nat) => [SV.int IntKind.u64 (s.F0_0 j)]) i)) i) = true) ∧ ∀ (i:Nat), i < e159_1_17 p s → (fun (i:Nat) => rowSet (e159_1_15 p s) ((fun (j:Nat) => rowSet (j.beq (e159_1_16 p s)) (splice ((fun (j:Nat) => [SV.int IntKind.u64 (s.F0_0 j)]) (e159_1_16 p s)) (0:Nat) (SV.int IntKind.u64 (e159_1_14 p s)).cells) ((fun (j:Nat) => [SV.int IntKind.u64 (s.F0_0 j)]) j)) i) ((fun (j:Nat) => [SV.int IntKind.u64 (s.F0_0 j)]) i)) i = elC (fun (i:Nat) => rowSet (e159_1_15 p s) ((fun (j:Nat) => rowSet (j.beq (e159_1_16 p s)) (splice ((fun (j:Nat) => [SV.int IntKind.u64 (s.F0_0 j)]) (e159_1_16 p s)) (0:Nat) (SV.int IntKind.u64 (e159_1_14 p s)).cells) ((fun (j:Nat) => [SV.int IntKind.u64 (s.F0_0 j)]) j)) i) ((fun (j:Nat) => [SV.int IntKind.u64 (s.F0_0 j)]) i)) (0:Nat) [Ck.int IntKind.u64] i
noncomputable def e159_1_8 (p : P159_1) (s : S159_1) : (Int) := cnd (e159_1_15 p s) (IntKind.i64.wrap (s.x3 + (1:Int))) s.x3
noncomputable def e159_1_9 (p : P159_1) (s : S159_1) : (Int) := IntKind.i64.wrap (s.x5 + (1:Int))
noncomputable def e159_1_10 (p : P159_1) (s : S159_1) : (Nat) := e159_1_17 p s
noncomputable def e159_1_11 (p : P159_1) (s : S159_1) : Nat → (Int) := fun (j:Nat) => cnd (e159_1_15 p s) (cnd (j.beq (e159_1_16 p s)) (e159_1_14 p s) (s.F0_0 j)) (s.F0_0 j)
theorem n_e159_1_1 (p : P159_1) (s : S159_1) : e159_1_1 p s := by
  unfold e159_1_1
  (repeat' first | intro _ | apply And.intro) <;> first | rfl | exact absurd (by assumption) (Nat.not_lt_zero _) | exact scpL_rowSet (by rfl) (by rfl) | exact scpL_rowEl (by kernel_rfl) _ | omega | decide
theorem n_e159_1_7 (p : P159_1) (s : S159_1) : e159_1_7 p s := by
  unfold e159_1_7
  (repeat' first | intro _ | apply And.intro) <;> first | rfl | exact absurd (by assumption) (Nat.not_lt_zero _) | exact scpL_rowSet (by rfl) (by rfl) | exact scpL_rowEl (by kernel_rfl) _ | omega | decide
noncomputable def rf159_1 (p : P159_1) (s : S159_1) : Tr (Rs th.R S159_1) := (Tr.ite (e159_1_0 p s) (Tr.need (e159_1_1 p s) (Tr.leaf (Rs.out (Ex.exit (2:Nat)) [(some (SV.slc (0:Nat) (1:Nat) (0:Nat) (p.n0))), none, none, some (SV.int .i64 (s.x3)), none, none, none, none, none, none, none, none, none, none, none, none, none, none, none, none, none, none, none, none, none, none, none, none, none, none, none, none, none, none, none, none, none, none, none, none, none, none, none, none, none, none, none, none, none, none, none, none, none, none, none, none, none, none, none, none, none] [(HO.row (22:Nat) (1:Nat) (s.N0) (fun j => [SV.int .u64 (s.F0_0 j)]))]))) (Tr.need (e159_1_2 p s) (Tr.need (e159_1_3 p s) (Tr.need (e159_1_4 p s) (Tr.need (e159_1_5 p s) (Tr.need (e159_1_6 p s) (Tr.need (e159_1_7 p s) (Tr.leaf (Rs.on (S159_1.mk ((e159_1_8 p s)) ((e159_1_9 p s)) ((e159_1_10 p s)) ((fun j => (e159_1_11 p s j)))))))))))))
noncomputable def r159_1 (p : P159_1) (s : S159_1) : Tr (Rs th.R S159_1) := (Tr.ite (e159_1_0 p s) (Tr.leaf (Rs.out (Ex.exit (2:Nat)) [(some (SV.slc (0:Nat) (1:Nat) (0:Nat) (p.n0))), none, none, some (SV.int .i64 (s.x3)), none, none, none, none, none, none, none, none, none, none, none, none, none, none, none, none, none, none, none, none, none, none, none, none, none, none, none, none, none, none, none, none, none, none, none, none, none, none, none, none, none, none, none, none, none, none, none, none, none, none, none, none, none, none, none, none, none] [(HO.row (22:Nat) (1:Nat) (s.N0) (fun j => [SV.int .u64 (s.F0_0 j)]))])) (Tr.need (e159_1_2 p s) (Tr.need (e159_1_3 p s) (Tr.need (e159_1_4 p s) (Tr.need (e159_1_5 p s) (Tr.need (e159_1_6 p s) (Tr.leaf (Rs.on (S159_1.mk ((e159_1_8 p s)) ((e159_1_9 p s)) ((e159_1_10 p s)) ((fun j => (e159_1_11 p s j))))))))))))
noncomputable def E159_1 : St th.R → Out th := evCode th Try.prog (auto th Try.prog nice204n [] 20) (autoH [] [] [] [] : Hints th) (lpAt Try.prog 159 1)
theorem B159_1 : CodeSound th Try.prog (lpAt Try.prog 159 1) E159_1 := evCode_sound (T := th) (P := Try.prog) (tbl := (auto th Try.prog nice204n [] 20)) (auto_sound (nice := nice204n) (us := []) nok204n 20) (autoH [] [] [] [] : Hints th) _ (LoopsOk_mem (fun _ => rfl) _ fun b hb L hL => by cases hL)
noncomputable def L159_1 : St th.R → Out th := loopL d159_1 ofV159_1 r159_1
theorem h1_159_1 (p : P159_1) (s : S159_1) : bld d159_1.tm (toV159_1 p s) = some (I159_1 p s) := by kernel_rfl
theorem h2_159_1 (l : List (Vl th.R)) (p : P159_1) (s : S159_1) (h : ofV159_1 l = some (p, s)) : l = toV159_1 p s := by
  unfold ofV159_1 at h
  split at h
  · cases h; rfl
  · cases h
theorem h3_159_1 (p : P159_1) (s : S159_1) : cvE d159_1 (E159_1 (I159_1 p s)) = some ((rf159_1 p s).map (Rs.map (toV159_1 p))) := by kernel_rfl
theorem h3g_159_1 (p : P159_1) (s : S159_1) : (rf159_1 p s).get = (r159_1 p s).get := by kernel_rfl
theorem h4_159_1 (p : P159_1) (s s1 : S159_1) : outH d159_1.dirt d159_1.n0 (r159_1 p s) = repH (maskH d159_1.dirt 0 d159_1.n0 (I159_1 p s1).heap) (r159_1 p s) := by kernel_rfl
theorem ls159_1 : CodeSound th Try.prog (.loop (lpAt Try.prog 159 1)) L159_1 := loopL_sound B159_1 d159_1 I159_1 toV159_1 (by kernel_rfl) h1_159_1 h2_159_1
  (fun p s => ⟨(rf159_1 p s).map (Rs.map (toV159_1 p)), h3_159_1 p s, fun h => by
    rw [Tr.map_ok]
    unfold r159_1 at h; unfold rf159_1
    simp only [Tr.ok, n_e159_1_1, n_e159_1_7, true_and, and_true, forall_const, implies_true] at h ⊢
    try exact h, by rw [Tr.map_get, h3g_159_1 p s]⟩) h4_159_1
structure P159_0 where
  n0 : Nat
  N0 : Nat
  F0_0 : Nat → Int
structure S159_0 where
  x3 : Int
noncomputable instance : Inhabited S159_0 := ⟨⟨0⟩⟩
def I159_0 (p : P159_0) (s : S159_0) : St th.R := ⟨[some (.slc 0 1 0 p.n0), none, some (.nils), some (.int .i64 s.x3), none, none, none, none, none, none, none, none, none, none, none, none, none, none, none, none, none, none, none, none, none, none, none, none, none, none, none, none, none, none, none, none, none, none, none, none, none, none, none, none, none, none, none, none, none, none, none, none, none, none, none, none, none, none, none, none, none], [.row 22 1 p.N0 (fun j => [.int .u64 (p.F0_0 j)])], [], []⟩
def d159_0 : Lp := ⟨⟨61, [(0, .slc0 0 1), (2, .nils), (3, .int .i64)], [.rowc 22 [.int .u64]]⟩, [], 1, [0], [0, 2], []⟩
def toV159_0 (p : P159_0) (s : S159_0) : List (Vl th.R) := [.n p.n0, .i s.x3, .n p.N0, .c p.F0_0]
def ofV159_0 : List (Vl th.R) → Option (P159_0 × S159_0)
  | [.n n0, .i x3, .n N0, .c F0_0] => some (⟨n0, N0, F0_0⟩, ⟨x3⟩)
  | _ => none
noncomputable def e159_0_15 (p : P159_0) (s : S159_0) : (Nat) := (0:Nat) + s.x3.toNat
noncomputable def e159_0_16 (p : P159_0) (s : S159_0) : (Int) := IntKind.i64.wrap (s.x3 - (1:Int))
noncomputable def e159_0_17 (p : P159_0) (s : S159_0) : (Nat) := (0:Nat) + (e159_0_16 p s).toNat
noncomputable def e159_0_18 (p : P159_0) (s : S159_0) : (Bool) := p.F0_0 (e159_0_15 p s) == p.F0_0 (e159_0_17 p s)
noncomputable def e159_0_19 (p : P159_0) (s : S159_0) : (S159_1) := lastS (r159_1 (P159_1.mk p.n0 (e159_0_15 p s) (p.n0 - s.x3.toNat))) (S159_1.mk s.x3 (1:Int) p.N0 p.F0_0)
noncomputable def e159_0_20 (p : P159_0) (s : S159_0) : (Int) := (e159_0_19 p s).x3
noncomputable def e159_0_21 (p : P159_0) (s : S159_0) : (Nat) := (e159_0_20 p s).toNat
noncomputable def e159_0_22 (p : P159_0) (s : S159_0) : (Nat) := (0:Nat) + e159_0_21 p s
noncomputable def e159_0_23 (p : P159_0) (s : S159_0) : (Nat) := e159_0_22 p s + (p.n0 - e159_0_21 p s)
noncomputable def e159_0_24 (p : P159_0) (s : S159_0) : (Nat) := (e159_0_19 p s).N0
noncomputable def e159_0_0 (p : P159_0) (s : S159_0) : (Bool) := cnd (decide (s.x3 < (↑p.n0:Int))) false true
noncomputable def e159_0_1 (p : P159_0) (s : S159_0) : (Prop) := ∀ (i:Nat), scpL (0:Nat) ((fun (j:Nat) => [SV.int IntKind.u64 (p.F0_0 j)]) i) = true
noncomputable def e159_0_2 (p : P159_0) (s : S159_0) : (Prop) := (true = true → (0:Int) ≤ s.x3 ∧ s.x3 < (↑p.n0:Int)) ∧ (true = true → e159_0_15 p s < p.N0) ∧ (true = true → (0:Int) ≤ e159_0_16 p s ∧ e159_0_16 p s < (↑p.n0:Int)) ∧ (true = true → e159_0_17 p s < p.N0)
noncomputable def e159_0_3 (p : P159_0) (s : S159_0) : (Prop) := e159_0_18 p s = true → (0:Int) ≤ s.x3 ∧ s.x3 ≤ (↑p.n0:Int)
noncomputable def e159_0_4 (p : P159_0) (s : S159_0) : (Prop) := e159_0_18 p s = true → ∀ (i:Nat), i < p.N0 → (fun (j:Nat) => [SV.int IntKind.u64 (p.F0_0 j)]) i = elC (fun (j:Nat) => [SV.int IntKind.u64 (p.F0_0 j)]) (0:Nat) [Ck.int IntKind.u64] i
noncomputable def e159_0_5 (p : P159_0) (s : S159_0) : (Prop) := e159_0_18 p s = true → LT (r159_1 (P159_1.mk p.n0 (e159_0_15 p s) (p.n0 - s.x3.toNat))) (S159_1.mk s.x3 (1:Int) p.N0 p.F0_0)
noncomputable def e159_0_6 (p : P159_0) (s : S159_0) : (Prop) := e159_0_18 p s = true → (0:Int) ≤ e159_0_20 p s ∧ e159_0_20 p s ≤ (↑p.n0:Int)
noncomputable def e159_0_7 (p : P159_0) (s : S159_0) : (Prop) := e159_0_18 p s = true → e159_0_23 p s ≤ e159_0_24 p s
noncomputable def e159_0_8 (p : P159_0) (s : S159_0) : (Bool) := e159_0_18 p s
noncomputable def e159_0_9 (p : P159_0) (s : S159_0) : (Prop) := ∀ (i:Nat), scpL (0:Nat) ((fun (j:Nat) => rowSet (cnd (j.blt (e159_0_22 p s)) false (j.blt (e159_0_23 p s))) [SV.int IntKind.u64 (0:Int)] ((fun (j:Nat) => [SV.int IntKind.u64 ((e159_0_19 p s).F0_0 j)]) j)) i) = true
noncomputable def e159_0_10 (p : P159_0) (s : S159_0) : (Nat) := e159_0_21 p s
noncomputable def e159_0_11 (p : P159_0) (s : S159_0) : (Nat) := e159_0_24 p s
noncomputable def e159_0_12 (p : P159_0) (s : S159_0) : Nat → (Int) := fun (j:Nat) => cnd (cnd (j.blt (e159_0_22 p s)) false (j.blt (e159_0_23 p s))) (0:Int) ((e159_0_19 p s).F0_0 j)
noncomputable def e159_0_13 (p : P159_0) (s : S159_0) : (Prop) := (∀ (i:Nat), scpL (0:Nat) ((fun (j:Nat) => [SV.int IntKind.u64 (p.F0_0 j)]) i) = true) ∧ ∀ (i:Nat), i < p.N0 → (fun (j:Nat) => [SV.int IntKind.u64 (p.F0_0 j)]) i = elC (fun (j:Nat) => [SV.int IntKind.u64 (p.F0_0 j)]) (0:Nat) [Ck.int IntKind.u64] i
noncomputable def e159_0_14 (p : P159_0) (s : S159_0) : (Int) := IntKind.i64.wrap (s.x3 + (1:Int))
theorem n_e159_0_1 (p : P159_0) (s : S159_0) : e159_0_1 p s := by
  unfold e159_0_1
  (repeat' first | intro _ | apply And.intro) <;> first | rfl | exact absurd (by assumption) (Nat.not_lt_zero _) | exact scpL_rowSet (by rfl) (by rfl) | exact scpL_rowEl (by kernel_rfl) _ | omega | decide
theorem n_e159_0_4 (p : P159_0) (s : S159_0) : e159_0_4 p s := by
  unfold e159_0_4
  (repeat' first | intro _ | apply And.intro) <;> first | rfl | exact absurd (by assumption) (Nat.not_lt_zero _) | exact scpL_rowSet (by rfl) (by rfl) | exact scpL_rowEl (by kernel_rfl) _ | omega | decide
theorem n_e159_0_9 (p : P159_0) (s : S159_0) : e159_0_9 p s := by
  unfold e159_0_9
  (repeat' first | intro _ | apply And.intro) <;> first | rfl | exact absurd (by assumption) (Nat.not_lt_zero _) | exact scpL_rowSet (by rfl) (by rfl) | exact scpL_rowEl (by kernel_rfl) _ | omega | decide
theorem n_e159_0_13 (p : P159_0) (s : S159_0) : e159_0_13 p s := by
  unfold e159_0_13
  (repeat' first | intro _ | apply And.intro) <;> first | rfl | exact absurd (by assumption) (Nat.not_lt_zero _) | exact scpL_rowSet (by rfl) (by rfl) | exact scpL_rowEl (by kernel_rfl) _ | omega | decide
noncomputable def rf159_0 (p : P159_0) (s : S159_0) : Tr (Rs th.R S159_0) := (Tr.ite (e159_0_0 p s) (Tr.need (e159_0_1 p s) (Tr.leaf (Rs.out (Ex.exit (0:Nat)) [(some (SV.slc (0:Nat) (1:Nat) (0:Nat) (p.n0))), none, some (SV.nils), none, none, none, none, none, none, none, none, none, none, none, none, none, none, none, none, none, none, none, none, none, none, none, none, none, none, none, none, none, none, none, none, none, none, none, none, none, none, none, none, none, none, none, none, none, none, none, none, none, none, none, none, none, none, none, none, none, none] [(HO.row (22:Nat) (1:Nat) (p.N0) (fun j => [SV.int .u64 (p.F0_0 j)]))]))) (Tr.need (e159_0_2 p s) (Tr.need (e159_0_3 p s) (Tr.need (e159_0_4 p s) (Tr.need (e159_0_5 p s) (Tr.need (e159_0_6 p s) (Tr.need (e159_0_7 p s) (Tr.need (e159_0_6 p s) (Tr.ite (e159_0_8 p s) (Tr.need (e159_0_9 p s) (Tr.leaf (Rs.out (Ex.ret) [(some (SV.slc (0:Nat) (1:Nat) (0:Nat) (p.n0))), none, (some (SV.slc (0:Nat) (1:Nat) (0:Nat) (e159_0_10 p s))), none, none, none, none, none, none, none, none, none, none, none, none, none, none, none, none, none, none, none, none, none, none, none, none, none, none, none, none, none, none, none, none, none, none, none, none, none, none, none, none, none, none, none, none, none, none, none, none, none, none, none, none, none, none, none, none, none, none] [(HO.row (22:Nat) (1:Nat) (e159_0_11 p s) (fun j => [SV.int .u64 (e159_0_12 p s j)]))]))) (Tr.need (e159_0_13 p s) (Tr.leaf (Rs.on (S159_0.mk ((e159_0_14 p s)))))))))))))))
noncomputable def r159_0 (p : P159_0) (s : S159_0) : Tr (Rs th.R S159_0) := (Tr.ite (e159_0_0 p s) (Tr.leaf (Rs.out (Ex.exit (0:Nat)) [(some (SV.slc (0:Nat) (1:Nat) (0:Nat) (p.n0))), none, some (SV.nils), none, none, none, none, none, none, none, none, none, none, none, none, none, none, none, none, none, none, none, none, none, none, none, none, none, none, none, none, none, none, none, none, none, none, none, none, none, none, none, none, none, none, none, none, none, none, none, none, none, none, none, none, none, none, none, none, none, none] [(HO.row (22:Nat) (1:Nat) (p.N0) (fun j => [SV.int .u64 (p.F0_0 j)]))])) (Tr.need (e159_0_2 p s) (Tr.need (e159_0_3 p s) (Tr.need (e159_0_5 p s) (Tr.need (e159_0_6 p s) (Tr.need (e159_0_7 p s) (Tr.need (e159_0_6 p s) (Tr.ite (e159_0_8 p s) (Tr.leaf (Rs.out (Ex.ret) [(some (SV.slc (0:Nat) (1:Nat) (0:Nat) (p.n0))), none, (some (SV.slc (0:Nat) (1:Nat) (0:Nat) (e159_0_10 p s))), none, none, none, none, none, none, none, none, none, none, none, none, none, none, none, none, none, none, none, none, none, none, none, none, none, none, none, none, none, none, none, none, none, none, none, none, none, none, none, none, none, none, none, none, none, none, none, none, none, none, none, none, none, none, none, none, none, none] [(HO.row (22:Nat) (1:Nat) (e159_0_11 p s) (fun j => [SV.int .u64 (e159_0_12 p s j)]))])) (Tr.leaf (Rs.on (S159_0.mk ((e159_0_14 p s)))))))))))))
noncomputable def E159_0 : St th.R → Out th := evCode th Try.prog (auto th Try.prog nice204n [] 20) (autoH [(9, L159_1)] [] [] [] : Hints th) (lpAt Try.prog 159 0)
theorem ok159_0 : LoopsOk th Try.prog (autoH [(9, L159_1)] [] [] [] : Hints th) (lpAt Try.prog 159 0) := autoH_ok (bs := [lpAt Try.prog 159 1]) (by kernel_rfl) fun b hb L hL => by
  simp only [List.mem_cons, List.not_mem_nil, or_false] at hb
  rcases hb with rfl
  · have e : lookL [(9, L159_1)] (firstReg (lpAt Try.prog 159 1)) = some L159_1 := by kernel_rfl
    rw [e] at hL; cases hL
    exact ls159_1
theorem B159_0 : CodeSound th Try.prog (lpAt Try.prog 159 0) E159_0 := evCode_sound (T := th) (P := Try.prog) (tbl := (auto th Try.prog nice204n [] 20)) (auto_sound (nice := nice204n) (us := []) nok204n 20) (autoH [(9, L159_1)] [] [] [] : Hints th) _ ok159_0
noncomputable def L159_0 : St th.R → Out th := loopL d159_0 ofV159_0 r159_0
theorem h1_159_0 (p : P159_0) (s : S159_0) : bld d159_0.tm (toV159_0 p s) = some (I159_0 p s) := by kernel_rfl
theorem h2_159_0 (l : List (Vl th.R)) (p : P159_0) (s : S159_0) (h : ofV159_0 l = some (p, s)) : l = toV159_0 p s := by
  unfold ofV159_0 at h
  split at h
  · cases h; rfl
  · cases h
theorem h3_159_0 (p : P159_0) (s : S159_0) : cvE d159_0 (E159_0 (I159_0 p s)) = some ((rf159_0 p s).map (Rs.map (toV159_0 p))) := by kernel_rfl
theorem h3g_159_0 (p : P159_0) (s : S159_0) : (rf159_0 p s).get = (r159_0 p s).get := by kernel_rfl
theorem h4_159_0 (p : P159_0) (s s1 : S159_0) : outH d159_0.dirt d159_0.n0 (r159_0 p s) = repH (maskH d159_0.dirt 0 d159_0.n0 (I159_0 p s1).heap) (r159_0 p s) := by kernel_rfl
theorem ls159_0 : CodeSound th Try.prog (.loop (lpAt Try.prog 159 0)) L159_0 := loopL_sound B159_0 d159_0 I159_0 toV159_0 (by kernel_rfl) h1_159_0 h2_159_0
  (fun p s => ⟨(rf159_0 p s).map (Rs.map (toV159_0 p)), h3_159_0 p s, fun h => by
    rw [Tr.map_ok]
    unfold r159_0 at h; unfold rf159_0
    simp only [Tr.ok, n_e159_0_1, n_e159_0_4, n_e159_0_9, n_e159_0_13, true_and, and_true, forall_const, implies_true] at h ⊢
    try exact h, by rw [Tr.map_get, h3g_159_0 p s]⟩) h4_159_0
theorem ok159 : LoopsOk th Try.prog (autoH [(4, L159_0)] [] [] [] : Hints th) (bodyOf Try.prog 159) := autoH_ok (bs := [lpAt Try.prog 159 0, lpAt Try.prog 159 1]) (by kernel_rfl) fun b hb L hL => by
  simp only [List.mem_cons, List.not_mem_nil, or_false] at hb
  rcases hb with rfl | rfl
  · have e : lookL [(4, L159_0)] (firstReg (lpAt Try.prog 159 0)) = some L159_0 := by kernel_rfl
    rw [e] at hL; cases hL
    exact ls159_0
  · have e : lookL [(4, L159_0)] (firstReg (lpAt Try.prog 159 1)) = (none : Option (St th.R → Out th)) := by kernel_rfl
    rw [e] at hL; cases hL
noncomputable def f159_7 (v : V159) : (Bool) := decide ((↑v.L:Int) < (2:Int))
noncomputable def f159_8 (v : V159) : (S159_0) := lastS (r159_0 (P159_0.mk v.L v.Q v.F)) (S159_0.mk (1:Int))
noncomputable def f159_9 (v : V159) : (Bool) := cnd (e159_0_0 (P159_0.mk v.L v.Q v.F) (f159_8 v)) false true
noncomputable def f159_0 (v : V159) : (Prop) := f159_7 v = false → ∀ (i:Nat), i < v.Q → (fun (j:Nat) => [SV.int IntKind.u64 (v.F j)]) i = elC (fun (j:Nat) => [SV.int IntKind.u64 (v.F j)]) (0:Nat) [Ck.int IntKind.u64] i
noncomputable def f159_1 (v : V159) : (Prop) := f159_7 v = false → LT (r159_0 (P159_0.mk v.L v.Q v.F)) (S159_0.mk (1:Int))
noncomputable def f159_2 (v : V159) : (Prop) := (∀ (i:Nat), scpL (1:Nat) ((fun (i:Nat) => rowSet (f159_7 v) ((fun (j:Nat) => [SV.int IntKind.u64 (v.F j)]) i) ((fun (i:Nat) => rowSet (f159_9 v) ((fun (j:Nat) => [SV.int IntKind.u64 (e159_0_12 (P159_0.mk v.L v.Q v.F) (f159_8 v) j)]) i) ((fun (j:Nat) => [SV.int IntKind.u64 (v.F j)]) i)) i)) i) = true) ∧ ∀ (i:Nat), scpL (1:Nat) ((fun (i:Nat) => rowSet (f159_7 v) ((fun (j:Nat) => [SV.int IntKind.u64 (v.F j)]) i) ((fun (i:Nat) => rowSet (f159_9 v) ((fun (j:Nat) => [SV.int IntKind.u64 (e159_0_12 (P159_0.mk v.L v.Q v.F) (f159_8 v) j)]) i) ((fun (j:Nat) => [SV.int IntKind.u64 (v.F j)]) i)) i)) i) = true
noncomputable def f159_3 (v : V159) : (Nat) := cnd (f159_7 v) (0:Nat) (cnd (f159_9 v) (0:Nat) (0:Nat))
noncomputable def f159_4 (v : V159) : (Nat) := cnd (f159_7 v) v.L (cnd (f159_9 v) (e159_0_10 (P159_0.mk v.L v.Q v.F) (f159_8 v)) v.L)
noncomputable def f159_5 (v : V159) : (Nat) := cnd (f159_7 v) v.Q (cnd (f159_9 v) (e159_0_11 (P159_0.mk v.L v.Q v.F) (f159_8 v)) v.Q)
noncomputable def f159_6 (v : V159) : Nat → (Int) := fun (i:Nat) => cnd (f159_7 v) (v.F i) (cnd (f159_9 v) (e159_0_12 (P159_0.mk v.L v.Q v.F) (f159_8 v) i) (v.F i))
theorem n_f159_0 (v : V159) : f159_0 v := by
  unfold f159_0
  (repeat' first | intro _ | apply And.intro) <;> first | rfl | exact absurd (by assumption) (Nat.not_lt_zero _) | exact scpL_rowSet (by rfl) (by rfl) | exact scpL_rowEl (by kernel_rfl) _ | omega | decide
theorem n_f159_2 (v : V159) : f159_2 v := by
  unfold f159_2
  (repeat' first | intro _ | apply And.intro) <;> first | rfl | exact absurd (by assumption) (Nat.not_lt_zero _) | exact scpL_rowSet (by rfl) (by rfl) | exact scpL_rowEl (by kernel_rfl) _ | omega | decide
noncomputable def ff159 (v : V159) : Tr (Fin th.R) := (Tr.need (f159_0 v) (Tr.need (f159_1 v) (Tr.need (f159_2 v) (Tr.leaf ((SV.slc (0:Nat) (1:Nat) (f159_3 v) (f159_4 v)), [(HO.row (22:Nat) (1:Nat) (f159_5 v) (fun i => [SV.int .u64 (f159_6 v i)]))], [(0:Nat), (0:Nat)])))))
noncomputable def f159 (v : V159) : Tr (Fin th.R) := (Tr.need (f159_1 v) (Tr.leaf ((SV.slc (0:Nat) (1:Nat) (f159_3 v) (f159_4 v)), [(HO.row (22:Nat) (1:Nat) (f159_5 v) (fun i => [SV.int .u64 (f159_6 v i)]))], [0])))
noncomputable def C159 : CF th.R := fnC d159 ofV159 (f159 )
theorem q159 (v : V159) : (evFn th Try.prog (auto th Try.prog nice204n [] 20) (autoH [(4, L159_0)] [] [] [] : Hints th) 159) (A159 v) (H159 v) = some (ff159 v) := by kernel_rfl
theorem qg159 (v : V159) : ((ff159 v).map (setD [0])).get = (f159 v).get := by kernel_rfl
theorem qd159 (v : V159) : allD 1 [0] (ff159 v) = true := by kernel_rfl
theorem s159 : Sound Try.prog th 159 (C159 ) := fnC_sound (evFn_sound' (T := th) (P := Try.prog) (tbl := (auto th Try.prog nice204n [] 20)) (auto_sound (nice := nice204n) (us := []) nok204n 20) (H := (autoH [(4, L159_0)] [] [] [] : Hints th)) (k := 159) (fnLoops ok159)) d159 A159 H159 toV159 (by kernel_rfl) (fun v => by kernel_rfl)
  (fun l v h => by
    unfold ofV159 at h
    split at h
    · cases h; rfl
    · cases h)
  [0] (fun v => ⟨ff159 v, q159 v, fun h => by
    unfold f159 at h; unfold ff159
    simp only [Tr.ok, n_f159_0, n_f159_2, true_and, and_true, forall_const, implies_true] at h ⊢
    try exact h, qg159 v, qd159 v⟩)
theorem qdd159 (v : V159) : (f159 v).get.2.2 = [0] := by
  rw [← qg159, Tr.map_get]; rfl
set_option maxRecDepth 100000
structure V198 where
  L : Nat
  a : Int
  b : Int
  Q : Nat
  F : Nat → Int
def A198 (v : V198) : List SV := [.slc 0 1 0 v.L, .int .i64 v.a, .int .i64 v.b]
def H198 (v : V198) : List (HO th.R) := [.row 22 1 v.Q (fun j => [.int .u64 (v.F j)])]
def toV198 (v : V198) : List (Vl th.R) := [.n v.L, .i v.a, .i v.b, .n v.Q, .c v.F]
def ofV198 : List (Vl th.R) → Option V198
  | [.n L, .i a, .i b, .n Q, .c F] => some ⟨L, a, b, Q, F⟩
  | _ => none
def d198 : Ft := ⟨[.slc0 0 1, .int .i64, .int .i64], [.rowc 22 [.int .u64]]⟩
structure P198_1 where
  n0 : Nat
  x1 : Int
  x2 : Int
  x6 : Int
  N0 : Nat
structure S198_1 where
  x7 : Int
  F0_0 : Nat → Int
noncomputable instance : Inhabited S198_1 := ⟨⟨0, fun _ => 0⟩⟩
def I198_1 (p : P198_1) (s : S198_1) : St th.R := ⟨[some (.slc 0 1 0 p.n0), some (.int .i64 p.x1), some (.int .i64 p.x2), none, none, none, some (.int .i64 p.x6), some (.int .i64 s.x7), none, none, none, none, none, none, none, none, none, none, none, none, none, none, none, none, none, none, none, none, none, none, none, none, none, none, none, none, none, none, none, none, none, none, none, none, none, none, none, none, none], [.row 22 1 p.N0 (fun j => [.int .u64 (s.F0_0 j)])], [], []⟩
def d198_1 : Lp := ⟨⟨49, [(0, .slc0 0 1), (1, .int .i64), (2, .int .i64), (6, .int .i64), (7, .int .i64)], [.rowc 22 [.int .u64]]⟩, [], 1, [0], [0, 1, 2, 6, 20, 21, 22, 23, 24, 25, 26, 27, 28, 29], []⟩
def toV198_1 (p : P198_1) (s : S198_1) : List (Vl th.R) := [.n p.n0, .i p.x1, .i p.x2, .i p.x6, .i s.x7, .n p.N0, .c s.F0_0]
def ofV198_1 : List (Vl th.R) → Option (P198_1 × S198_1)
  | [.n n0, .i x1, .i x2, .i x6, .i x7, .n N0, .c F0_0] => some (⟨n0, x1, x2, x6, N0⟩, ⟨x7, F0_0⟩)
  | _ => none
noncomputable def e198_1_7 (p : P198_1) (s : S198_1) : (Nat) := (0:Nat) + s.x7.toNat
noncomputable def e198_1_8 (p : P198_1) (s : S198_1) : (Int) := IntKind.i64.wrap (s.x7 - (1:Int))
noncomputable def e198_1_9 (p : P198_1) (s : S198_1) : (Nat) := (0:Nat) + (e198_1_8 p s).toNat
noncomputable def e198_1_10 (p : P198_1) (s : S198_1) : (Int) := s.F0_0 (e198_1_7 p s)
noncomputable def e198_1_11 (p : P198_1) (s : S198_1) : (Int) := s.F0_0 (e198_1_9 p s)
noncomputable def e198_1_0 (p : P198_1) (s : S198_1) : (Prop) := (cnd (decide (s.x7 > p.x1)) true false = true → (0:Int) ≤ s.x7 ∧ s.x7 < (↑p.n0:Int)) ∧ (cnd (decide (s.x7 > p.x1)) true false = true → e198_1_7 p s < p.N0) ∧ (cnd (decide (s.x7 > p.x1)) true false = true → (0:Int) ≤ e198_1_8 p s ∧ e198_1_8 p s < (↑p.n0:Int)) ∧ (cnd (decide (s.x7 > p.x1)) true false = true → e198_1_9 p s < p.N0) ∧ (cnd (decide (s.x7 > p.x1)) true false = true → pre204 (V204.mk (e198_1_10 p s) (e198_1_11 p s)))
noncomputable def e198_1_1 (p : P198_1) (s : S198_1) : (Bool) := cnd (cnd (decide (s.x7 > p.x1)) (decide (e198_1_10 p s < e198_1_11 p s)) false) false true
noncomputable def e198_1_2 (p : P198_1) (s : S198_1) : (Prop) := ∀ (i:Nat), scpL (0:Nat) ((fun (j:Nat) => [SV.int IntKind.u64 (s.F0_0 j)]) i) = true
noncomputable def e198_1_3 (p : P198_1) (s : S198_1) : (Prop) := (true = true → (0:Int) ≤ e198_1_8 p s ∧ e198_1_8 p s < (↑p.n0:Int)) ∧ (true = true → e198_1_9 p s < p.N0) ∧ (true = true → (0:Int) ≤ s.x7 ∧ s.x7 < (↑p.n0:Int)) ∧ (true = true → e198_1_7 p s < p.N0) ∧ (true = true → (0:Int) ≤ s.x7 ∧ s.x7 < (↑p.n0:Int)) ∧ (e198_1_7 p s < p.N0 ∧ (1:Nat) = (1:Nat)) ∧ (true = true → (0:Int) ≤ e198_1_8 p s ∧ e198_1_8 p s < (↑p.n0:Int)) ∧ e198_1_9 p s < p.N0 ∧ (1:Nat) = (1:Nat)
noncomputable def e198_1_4 (p : P198_1) (s : S198_1) : (Prop) := (∀ (i:Nat), scpL (0:Nat) ((fun (j:Nat) => rowSet (j.beq (e198_1_9 p s)) (splice ((fun (j:Nat) => rowSet (j.beq (e198_1_7 p s)) (splice ((fun (j:Nat) => [SV.int IntKind.u64 (s.F0_0 j)]) (e198_1_7 p s)) (0:Nat) (SV.int IntKind.u64 (e198_1_11 p s)).cells) ((fun (j:Nat) => [SV.int IntKind.u64 (s.F0_0 j)]) j)) (e198_1_9 p s)) (0:Nat) (SV.int IntKind.u64 (e198_1_10 p s)).cells) ((fun (j:Nat) => rowSet (j.beq (e198_1_7 p s)) (splice ((fun (j:Nat) => [SV.int IntKind.u64 (s.F0_0 j)]) (e198_1_7 p s)) (0:Nat) (SV.int IntKind.u64 (e198_1_11 p s)).cells) ((fun (j:Nat) => [SV.int IntKind.u64 (s.F0_0 j)]) j)) j)) i) = true) ∧ ∀ (i:Nat), i < p.N0 → (fun (j:Nat) => rowSet (j.beq (e198_1_9 p s)) (splice ((fun (j:Nat) => rowSet (j.beq (e198_1_7 p s)) (splice ((fun (j:Nat) => [SV.int IntKind.u64 (s.F0_0 j)]) (e198_1_7 p s)) (0:Nat) (SV.int IntKind.u64 (e198_1_11 p s)).cells) ((fun (j:Nat) => [SV.int IntKind.u64 (s.F0_0 j)]) j)) (e198_1_9 p s)) (0:Nat) (SV.int IntKind.u64 (e198_1_10 p s)).cells) ((fun (j:Nat) => rowSet (j.beq (e198_1_7 p s)) (splice ((fun (j:Nat) => [SV.int IntKind.u64 (s.F0_0 j)]) (e198_1_7 p s)) (0:Nat) (SV.int IntKind.u64 (e198_1_11 p s)).cells) ((fun (j:Nat) => [SV.int IntKind.u64 (s.F0_0 j)]) j)) j)) i = elC (fun (j:Nat) => rowSet (j.beq (e198_1_9 p s)) (splice ((fun (j:Nat) => rowSet (j.beq (e198_1_7 p s)) (splice ((fun (j:Nat) => [SV.int IntKind.u64 (s.F0_0 j)]) (e198_1_7 p s)) (0:Nat) (SV.int IntKind.u64 (e198_1_11 p s)).cells) ((fun (j:Nat) => [SV.int IntKind.u64 (s.F0_0 j)]) j)) (e198_1_9 p s)) (0:Nat) (SV.int IntKind.u64 (e198_1_10 p s)).cells) ((fun (j:Nat) => rowSet (j.beq (e198_1_7 p s)) (splice ((fun (j:Nat) => [SV.int IntKind.u64 (s.F0_0 j)]) (e198_1_7 p s)) (0:Nat) (SV.int IntKind.u64 (e198_1_11 p s)).cells) ((fun (j:Nat) => [SV.int IntKind.u64 (s.F0_0 j)]) j)) j)) (0:Nat) [Ck.int IntKind.u64] i
noncomputable def e198_1_5 (p : P198_1) (s : S198_1) : (Int) := e198_1_8 p s
noncomputable def e198_1_6 (p : P198_1) (s : S198_1) : Nat → (Int) := fun (j:Nat) => cnd (j.beq (e198_1_9 p s)) (e198_1_10 p s) (cnd (j.beq (e198_1_7 p s)) (e198_1_11 p s) (s.F0_0 j))
theorem n_e198_1_2 (p : P198_1) (s : S198_1) : e198_1_2 p s := by
  unfold e198_1_2
  (repeat' first | intro _ | apply And.intro) <;> first | rfl | exact absurd (by assumption) (Nat.not_lt_zero _) | exact scpL_rowSet (by rfl) (by rfl) | exact scpL_rowEl (by kernel_rfl) _ | omega | decide
theorem n_e198_1_4 (p : P198_1) (s : S198_1) : e198_1_4 p s := by
  unfold e198_1_4
  (repeat' first | intro _ | apply And.intro) <;> first | rfl | exact absurd (by assumption) (Nat.not_lt_zero _) | exact scpL_rowSet (by rfl) (by rfl) | exact scpL_rowEl (by kernel_rfl) _ | omega | decide
noncomputable def rf198_1 (p : P198_1) (s : S198_1) : Tr (Rs th.R S198_1) := (Tr.need (e198_1_0 p s) (Tr.ite (e198_1_1 p s) (Tr.need (e198_1_2 p s) (Tr.leaf (Rs.out (Ex.exit (2:Nat)) [(some (SV.slc (0:Nat) (1:Nat) (0:Nat) (p.n0))), some (SV.int .i64 (p.x1)), some (SV.int .i64 (p.x2)), none, none, none, some (SV.int .i64 (p.x6)), none, none, none, none, none, none, none, none, none, none, none, none, none, none, none, none, none, none, none, none, none, none, none, none, none, none, none, none, none, none, none, none, none, none, none, none, none, none, none, none, none, none] [(HO.row (22:Nat) (1:Nat) (p.N0) (fun j => [SV.int .u64 (s.F0_0 j)]))]))) (Tr.need (e198_1_3 p s) (Tr.need (e198_1_4 p s) (Tr.leaf (Rs.on (S198_1.mk ((e198_1_5 p s)) ((fun j => (e198_1_6 p s j))))))))))
noncomputable def r198_1 (p : P198_1) (s : S198_1) : Tr (Rs th.R S198_1) := (Tr.need (e198_1_0 p s) (Tr.ite (e198_1_1 p s) (Tr.leaf (Rs.out (Ex.exit (2:Nat)) [(some (SV.slc (0:Nat) (1:Nat) (0:Nat) (p.n0))), some (SV.int .i64 (p.x1)), some (SV.int .i64 (p.x2)), none, none, none, some (SV.int .i64 (p.x6)), none, none, none, none, none, none, none, none, none, none, none, none, none, none, none, none, none, none, none, none, none, none, none, none, none, none, none, none, none, none, none, none, none, none, none, none, none, none, none, none, none, none] [(HO.row (22:Nat) (1:Nat) (p.N0) (fun j => [SV.int .u64 (s.F0_0 j)]))])) (Tr.need (e198_1_3 p s) (Tr.leaf (Rs.on (S198_1.mk ((e198_1_5 p s)) ((fun j => (e198_1_6 p s j)))))))))
noncomputable def E198_1 : St th.R → Out th := evCode th Try.prog (auto th Try.prog nice204n [] 20) (autoH [] [] [] [] : Hints th) (lpAt Try.prog 198 1)
theorem B198_1 : CodeSound th Try.prog (lpAt Try.prog 198 1) E198_1 := evCode_sound (T := th) (P := Try.prog) (tbl := (auto th Try.prog nice204n [] 20)) (auto_sound (nice := nice204n) (us := []) nok204n 20) (autoH [] [] [] [] : Hints th) _ (LoopsOk_mem (fun _ => rfl) _ fun b hb L hL => by cases hL)
noncomputable def L198_1 : St th.R → Out th := loopL d198_1 ofV198_1 r198_1
theorem h1_198_1 (p : P198_1) (s : S198_1) : bld d198_1.tm (toV198_1 p s) = some (I198_1 p s) := by kernel_rfl
theorem h2_198_1 (l : List (Vl th.R)) (p : P198_1) (s : S198_1) (h : ofV198_1 l = some (p, s)) : l = toV198_1 p s := by
  unfold ofV198_1 at h
  split at h
  · cases h; rfl
  · cases h
theorem h3_198_1 (p : P198_1) (s : S198_1) : cvE d198_1 (E198_1 (I198_1 p s)) = some ((rf198_1 p s).map (Rs.map (toV198_1 p))) := by kernel_rfl
theorem h3g_198_1 (p : P198_1) (s : S198_1) : (rf198_1 p s).get = (r198_1 p s).get := by kernel_rfl
theorem h4_198_1 (p : P198_1) (s s1 : S198_1) : outH d198_1.dirt d198_1.n0 (r198_1 p s) = repH (maskH d198_1.dirt 0 d198_1.n0 (I198_1 p s1).heap) (r198_1 p s) := by kernel_rfl
theorem ls198_1 : CodeSound th Try.prog (.loop (lpAt Try.prog 198 1)) L198_1 := loopL_sound B198_1 d198_1 I198_1 toV198_1 (by kernel_rfl) h1_198_1 h2_198_1
  (fun p s => ⟨(rf198_1 p s).map (Rs.map (toV198_1 p)), h3_198_1 p s, fun h => by
    rw [Tr.map_ok]
    unfold r198_1 at h; unfold rf198_1
    simp only [Tr.ok, n_e198_1_2, n_e198_1_4, true_and, and_true, forall_const, implies_true] at h ⊢
    try exact h, by rw [Tr.map_get, h3g_198_1 p s]⟩) h4_198_1
structure P198_0 where
  n0 : Nat
  x1 : Int
  x2 : Int
  N0 : Nat
structure S198_0 where
  x6 : Int
  F0_0 : Nat → Int
noncomputable instance : Inhabited S198_0 := ⟨⟨0, fun _ => 0⟩⟩
def I198_0 (p : P198_0) (s : S198_0) : St th.R := ⟨[some (.slc 0 1 0 p.n0), some (.int .i64 p.x1), some (.int .i64 p.x2), none, none, none, some (.int .i64 s.x6), none, none, none, none, none, none, none, none, none, none, none, none, none, none, none, none, none, none, none, none, none, none, none, none, none, none, none, none, none, none, none, none, none, none, none, none, none, none, none, none, none, none], [.row 22 1 p.N0 (fun j => [.int .u64 (s.F0_0 j)])], [], []⟩
def d198_0 : Lp := ⟨⟨49, [(0, .slc0 0 1), (1, .int .i64), (2, .int .i64), (6, .int .i64)], [.rowc 22 [.int .u64]]⟩, [], 1, [0], [], []⟩
def toV198_0 (p : P198_0) (s : S198_0) : List (Vl th.R) := [.n p.n0, .i p.x1, .i p.x2, .i s.x6, .n p.N0, .c s.F0_0]
def ofV198_0 : List (Vl th.R) → Option (P198_0 × S198_0)
  | [.n n0, .i x1, .i x2, .i x6, .n N0, .c F0_0] => some (⟨n0, x1, x2, N0⟩, ⟨x6, F0_0⟩)
  | _ => none
noncomputable def e198_0_0 (p : P198_0) (s : S198_0) : (Bool) := cnd (decide (s.x6 < p.x2)) false true
noncomputable def e198_0_1 (p : P198_0) (s : S198_0) : (Prop) := ∀ (i:Nat), scpL (0:Nat) ((fun (j:Nat) => [SV.int IntKind.u64 (s.F0_0 j)]) i) = true
noncomputable def e198_0_2 (p : P198_0) (s : S198_0) : (Prop) := ∀ (i:Nat), i < p.N0 → (fun (j:Nat) => [SV.int IntKind.u64 (s.F0_0 j)]) i = elC (fun (j:Nat) => [SV.int IntKind.u64 (s.F0_0 j)]) (0:Nat) [Ck.int IntKind.u64] i
noncomputable def e198_0_3 (p : P198_0) (s : S198_0) : (Prop) := LT (r198_1 (P198_1.mk p.n0 p.x1 p.x2 s.x6 p.N0)) (S198_1.mk s.x6 s.F0_0)
noncomputable def e198_0_4 (p : P198_0) (s : S198_0) : (Prop) := (∀ (i:Nat), scpL (0:Nat) ((fun (j:Nat) => [SV.int IntKind.u64 ((lastS (r198_1 (P198_1.mk p.n0 p.x1 p.x2 s.x6 p.N0)) (S198_1.mk s.x6 s.F0_0)).F0_0 j)]) i) = true) ∧ ∀ (i:Nat), i < p.N0 → (fun (j:Nat) => [SV.int IntKind.u64 ((lastS (r198_1 (P198_1.mk p.n0 p.x1 p.x2 s.x6 p.N0)) (S198_1.mk s.x6 s.F0_0)).F0_0 j)]) i = elC (fun (j:Nat) => [SV.int IntKind.u64 ((lastS (r198_1 (P198_1.mk p.n0 p.x1 p.x2 s.x6 p.N0)) (S198_1.mk s.x6 s.F0_0)).F0_0 j)]) (0:Nat) [Ck.int IntKind.u64] i
noncomputable def e198_0_5 (p : P198_0) (s : S198_0) : (Int) := IntKind.i64.wrap (s.x6 + (1:Int))
noncomputable def e198_0_6 (p : P198_0) (s : S198_0) : (Nat → Int) := (lastS (r198_1 (P198_1.mk p.n0 p.x1 p.x2 s.x6 p.N0)) (S198_1.mk s.x6 s.F0_0)).F0_0
theorem n_e198_0_1 (p : P198_0) (s : S198_0) : e198_0_1 p s := by
  unfold e198_0_1
  (repeat' first | intro _ | apply And.intro) <;> first | rfl | exact absurd (by assumption) (Nat.not_lt_zero _) | exact scpL_rowSet (by rfl) (by rfl) | exact scpL_rowEl (by kernel_rfl) _ | omega | decide
theorem n_e198_0_2 (p : P198_0) (s : S198_0) : e198_0_2 p s := by
  unfold e198_0_2
  (repeat' first | intro _ | apply And.intro) <;> first | rfl | exact absurd (by assumption) (Nat.not_lt_zero _) | exact scpL_rowSet (by rfl) (by rfl) | exact scpL_rowEl (by kernel_rfl) _ | omega | decide
theorem n_e198_0_4 (p : P198_0) (s : S198_0) : e198_0_4 p s := by
  unfold e198_0_4
  (repeat' first | intro _ | apply And.intro) <;> first | rfl | exact absurd (by assumption) (Nat.not_lt_zero _) | exact scpL_rowSet (by rfl) (by rfl) | exact scpL_rowEl (by kernel_rfl) _ | omega | decide
noncomputable def rf198_0 (p : P198_0) (s : S198_0) : Tr (Rs th.R S198_0) := (Tr.ite (e198_0_0 p s) (Tr.need (e198_0_1 p s) (Tr.leaf (Rs.out (Ex.exit (0:Nat)) [none, none, none, none, none, none, none, none, none, none, none, none, none, none, none, none, none, none, none, none, none, none, none, none, none, none, none, none, none, none, none, none, none, none, none, none, none, none, none, none, none, none, none, none, none, none, none, none, none] [(HO.row (22:Nat) (1:Nat) (p.N0) (fun j => [SV.int .u64 (s.F0_0 j)]))]))) (Tr.need (e198_0_2 p s) (Tr.need (e198_0_3 p s) (Tr.need (e198_0_4 p s) (Tr.leaf (Rs.on (S198_0.mk ((e198_0_5 p s)) ((e198_0_6 p s)))))))))
noncomputable def r198_0 (p : P198_0) (s : S198_0) : Tr (Rs th.R S198_0) := (Tr.ite (e198_0_0 p s) (Tr.leaf (Rs.out (Ex.exit (0:Nat)) [none, none, none, none, none, none, none, none, none, none, none, none, none, none, none, none, none, none, none, none, none, none, none, none, none, none, none, none, none, none, none, none, none, none, none, none, none, none, none, none, none, none, none, none, none, none, none, none, none] [(HO.row (22:Nat) (1:Nat) (p.N0) (fun j => [SV.int .u64 (s.F0_0 j)]))])) (Tr.need (e198_0_3 p s) (Tr.leaf (Rs.on (S198_0.mk ((e198_0_5 p s)) ((e198_0_6 p s)))))))
noncomputable def E198_0 : St th.R → Out th := evCode th Try.prog (auto th Try.prog nice204n [] 20) (autoH [(4, L198_1)] [] [] [] : Hints th) (lpAt Try.prog 198 0)
theorem ok198_0 : LoopsOk th Try.prog (autoH [(4, L198_1)] [] [] [] : Hints th) (lpAt Try.prog 198 0) := autoH_ok (bs := [lpAt Try.prog 198 1]) (by kernel_rfl) fun b hb L hL => by
  simp only [List.mem_cons, List.not_mem_nil, or_false] at hb
  rcases hb with rfl
  · have e : lookL [(4, L198_1)] (firstReg (lpAt Try.prog 198 1)) = some L198_1 := by kernel_rfl
    rw [e] at hL; cases hL
    exact ls198_1
theorem B198_0 : CodeSound th Try.prog (lpAt Try.prog 198 0) E198_0 := evCode_sound (T := th) (P := Try.prog) (tbl := (auto th Try.prog nice204n [] 20)) (auto_sound (nice := nice204n) (us := []) nok204n 20) (autoH [(4, L198_1)] [] [] [] : Hints th) _ ok198_0
noncomputable def L198_0 : St th.R → Out th := loopL d198_0 ofV198_0 r198_0
theorem h1_198_0 (p : P198_0) (s : S198_0) : bld d198_0.tm (toV198_0 p s) = some (I198_0 p s) := by kernel_rfl
theorem h2_198_0 (l : List (Vl th.R)) (p : P198_0) (s : S198_0) (h : ofV198_0 l = some (p, s)) : l = toV198_0 p s := by
  unfold ofV198_0 at h
  split at h
  · cases h; rfl
  · cases h
theorem h3_198_0 (p : P198_0) (s : S198_0) : cvE d198_0 (E198_0 (I198_0 p s)) = some ((rf198_0 p s).map (Rs.map (toV198_0 p))) := by kernel_rfl
theorem h3g_198_0 (p : P198_0) (s : S198_0) : (rf198_0 p s).get = (r198_0 p s).get := by kernel_rfl
theorem h4_198_0 (p : P198_0) (s s1 : S198_0) : outH d198_0.dirt d198_0.n0 (r198_0 p s) = repH (maskH d198_0.dirt 0 d198_0.n0 (I198_0 p s1).heap) (r198_0 p s) := by kernel_rfl
theorem ls198_0 : CodeSound th Try.prog (.loop (lpAt Try.prog 198 0)) L198_0 := loopL_sound B198_0 d198_0 I198_0 toV198_0 (by kernel_rfl) h1_198_0 h2_198_0
  (fun p s => ⟨(rf198_0 p s).map (Rs.map (toV198_0 p)), h3_198_0 p s, fun h => by
    rw [Tr.map_ok]
    unfold r198_0 at h; unfold rf198_0
    simp only [Tr.ok, n_e198_0_1, n_e198_0_2, n_e198_0_4, true_and, and_true, forall_const, implies_true] at h ⊢
    try exact h, by rw [Tr.map_get, h3g_198_0 p s]⟩) h4_198_0
theorem ok198 : LoopsOk th Try.prog (autoH [(1, L198_0)] [] [] [] : Hints th) (bodyOf Try.prog 198) := autoH_ok (bs := [lpAt Try.prog 198 0, lpAt Try.prog 198 1]) (by kernel_rfl) fun b hb L hL => by
  simp only [List.mem_cons, List.not_mem_nil, or_false] at hb
  rcases hb with rfl | rfl
  · have e : lookL [(1, L198_0)] (firstReg (lpAt Try.prog 198 0)) = some L198_0 := by kernel_rfl
    rw [e] at hL; cases hL
    exact ls198_0
  · have e : lookL [(1, L198_0)] (firstReg (lpAt Try.prog 198 1)) = (none : Option (St th.R → Out th)) := by kernel_rfl
    rw [e] at hL; cases hL
noncomputable def f198_4 (v : V198) : (S198_0) := S198_0.mk (IntKind.i64.wrap (v.a + (1:Int))) v.F
noncomputable def f198_0 (v : V198) : (Prop) := ∀ (i:Nat), i < v.Q → (fun (j:Nat) => [SV.int IntKind.u64 (v.F j)]) i = elC (fun (j:Nat) => [SV.int IntKind.u64 (v.F j)]) (0:Nat) [Ck.int IntKind.u64] i
noncomputable def f198_1 (v : V198) : (Prop) := LT (r198_0 (P198_0.mk v.L v.a v.b v.Q)) (f198_4 v)
noncomputable def f198z0 (v : V198) : S198_0 := lastS (r198_0 (P198_0.mk v.L v.a v.b v.Q)) (f198_4 v)
noncomputable def f198_2 (v : V198) : (Prop) := ∀ (i:Nat), scpL (1:Nat) ((fun (j:Nat) => [SV.int IntKind.u64 ((f198z0 v).F0_0 j)]) i) = true
noncomputable def f198_3 (v : V198) : Nat → (Int) := fun (j:Nat) => (f198z0 v).F0_0 j
theorem n_f198_0 (v : V198) : f198_0 v := by
  unfold f198_0
  (repeat' first | intro _ | apply And.intro) <;> first | rfl | exact absurd (by assumption) (Nat.not_lt_zero _) | exact scpL_rowSet (by rfl) (by rfl) | exact scpL_rowEl (by kernel_rfl) _ | omega | decide
theorem n_f198_2 (v : V198) : f198_2 v := by
  unfold f198_2
  (repeat' first | intro _ | apply And.intro) <;> first | rfl | exact absurd (by assumption) (Nat.not_lt_zero _) | exact scpL_rowSet (by rfl) (by rfl) | exact scpL_rowEl (by kernel_rfl) _ | omega | decide
noncomputable def ff198 (v : V198) : Tr (Fin th.R) := (Tr.need (f198_0 v) (Tr.need (f198_1 v) (Tr.need (f198_2 v) (Tr.leaf (SV.tup [], [(HO.row (22:Nat) (1:Nat) (v.Q) (fun j => [SV.int .u64 (f198_3 v j)]))], [(0:Nat)])))))
noncomputable def f198 (v : V198) : Tr (Fin th.R) := (Tr.need (f198_1 v) (Tr.leaf (SV.tup [], [(HO.row (22:Nat) (1:Nat) (v.Q) (fun j => [SV.int .u64 (f198_3 v j)]))], [0])))
noncomputable def C198 : CF th.R := fnC d198 ofV198 (f198 )
theorem q198 (v : V198) : (evFn th Try.prog (auto th Try.prog nice204n [] 20) (autoH [(1, L198_0)] [] [] [] : Hints th) 198) (A198 v) (H198 v) = some (ff198 v) := by kernel_rfl
theorem qg198 (v : V198) : ((ff198 v).map (setD [0])).get = (f198 v).get := by kernel_rfl
theorem qd198 (v : V198) : allD 1 [0] (ff198 v) = true := by kernel_rfl
theorem s198 : Sound Try.prog th 198 (C198 ) := fnC_sound (evFn_sound' (T := th) (P := Try.prog) (tbl := (auto th Try.prog nice204n [] 20)) (auto_sound (nice := nice204n) (us := []) nok204n 20) (H := (autoH [(1, L198_0)] [] [] [] : Hints th)) (k := 198) (fnLoops ok198)) d198 A198 H198 toV198 (by kernel_rfl) (fun v => by kernel_rfl)
  (fun l v h => by
    unfold ofV198 at h
    split at h
    · cases h; rfl
    · cases h)
  [0] (fun v => ⟨ff198 v, q198 v, fun h => by
    unfold f198 at h; unfold ff198
    simp only [Tr.ok, n_f198_0, n_f198_2, true_and, and_true, forall_const, implies_true] at h ⊢
    try exact h, qg198 v, qd198 v⟩)
theorem qdd198 (v : V198) : (f198 v).get.2.2 = [0] := by
  rw [← qg198, Tr.map_get]; rfl
set_option maxRecDepth 100000
open Go.Sort (insInner insOuter ltInt swp)
theorem l198_1 {p : P198_1} {s : S198_1} {a n j : Nat} (hp : p.x1 = a ∧ p.n0 = n ∧ p.N0 = n ∧ n < 4611686018427387904) (hs : s.x7 = j ∧ j < n) : LT (r198_1 p) s ∧ ar (lastS (r198_1 p) s).F0_0 n = insInner ltInt a j (ar s.F0_0 n) := by
  obtain ⟨h1, h0, hN, hn⟩ := hp
  refine LT.post (fun t : S198_1 => ∃ i : Nat, t.x7 = i ∧ i < n ∧ insInner ltInt a i (ar t.F0_0 n) = insInner ltInt a j (ar s.F0_0 n)) (fun t : S198_1 => ar t.F0_0 n = insInner ltInt a j (ar s.F0_0 n)) (fun t : S198_1 => t.x7.toNat) ?_ ⟨j, hs.1, hs.2, rfl⟩
  rintro ⟨x7, F⟩ ⟨i, g1, g2, g3⟩
  simp only at g1 g3
  subst g1
  rw [← g3]
  have e7 : e198_1_7 p ⟨i, F⟩ = i := by show 0 + (i:Int).toNat = i; omega
  have e8 : e198_1_8 p ⟨i, F⟩ = (i:Int) - 1 := by show IntKind.i64.wrap ((i:Int) - 1) = _; rw [wi (by omega) (by omega)]
  have e9 : e198_1_9 p ⟨i, F⟩ = i - 1 := by show 0 + (e198_1_8 p ⟨i, F⟩).toNat = i - 1; rw [e8]; omega
  have nd : e198_1_0 p ⟨i, F⟩ := by
    unfold e198_1_0
    rw [e7, e8, e9, h0, hN]
    refine ⟨fun _ => ⟨by show (0:Int) ≤ i; omega, by show (i:Int) < n; omega⟩, fun _ => g2, fun e => ?_, fun _ => by omega, fun _ => trivial⟩
    have : (i:Int) > p.x1 := by simpa [cnd_id] using e
    omega
  by_cases hc : i > a ∧ F i < F (i - 1)
  · obtain ⟨k, rfl⟩ : ∃ k, i = k + 1 := ⟨i - 1, by omega⟩
    have ek : k + 1 - 1 = k := by omega
    rw [ek] at hc e9
    have hd : e198_1_1 p ⟨((k + 1:Nat):Int), F⟩ = false := by
      show cnd (cnd (decide (((k + 1:Nat):Int) > p.x1)) (decide (e198_1_10 p _ < e198_1_11 p _)) false) false true = false
      unfold e198_1_10 e198_1_11
      rw [e7, e9, decide_eq_true (show ((k + 1:Nat):Int) > p.x1 by omega)]
      have : decide (F (k + 1) < F k) = true := decide_eq_true hc.2
      show cnd (cnd true (decide (F (k + 1) < F k)) false) false true = false
      rw [this]; rfl
    simp only [r198_1, hd, Tr.ok, Tr.get]
    refine ⟨⟨nd, (fun e => by cases e), fun _ => ⟨?_, trivial⟩⟩, .inr ⟨_, rfl, ⟨k, by show e198_1_8 p _ = _; rw [e8]; omega, by omega, ?_⟩, by show (e198_1_8 p _).toNat < _; rw [e8]; omega⟩⟩
    · unfold e198_1_3
      rw [e7, e8, e9, h0, hN]
      (repeat' first | apply And.intro | intro _) <;> first
        | rfl
        | omega
        | (show (0:Int) ≤ ((k + 1:Nat):Int); omega)
        | (show ((k + 1:Nat):Int) < n; omega)
    · show insInner ltInt a k (ar (e198_1_6 p ⟨((k + 1:Nat):Int), F⟩) n) = insInner ltInt a (k + 1) (ar F n)
      have e6 : e198_1_6 p ⟨((k + 1:Nat):Int), F⟩ = swF F (k + 1) k := by
        funext q
        show cnd (Nat.beq q (e198_1_9 p _)) (e198_1_10 p _) (cnd (Nat.beq q (e198_1_7 p _)) (e198_1_11 p _) (F q)) = _
        unfold e198_1_10 e198_1_11
        rw [e7, e9]; rfl
      have e2 : ltInt (ar F n)[k + 1]! (ar F n)[k]! = true := by rw [lt_ar g2 (by omega)]; exact decide_eq_true hc.2
      rw [e6, ← ar_swp g2 (by omega)]
      show _ = if k + 1 > a && ltInt (ar F n)[k + 1]! (ar F n)[k]! then insInner ltInt a k (swp (ar F n) (k + 1) k) else ar F n
      rw [e2, if_pos (by simpa using hc.1)]
  · have hd : e198_1_1 p ⟨i, F⟩ = true := by
      show cnd (cnd (decide ((i:Int) > p.x1)) (decide (e198_1_10 p _ < e198_1_11 p _)) false) false true = true
      unfold e198_1_10 e198_1_11
      rw [e7, e9]
      by_cases ha : i > a
      · rw [decide_eq_true (show (i:Int) > p.x1 by omega)]
        have : decide (F i < F (i - 1)) = false := decide_eq_false fun e => hc ⟨ha, e⟩
        show cnd (cnd true (decide (F i < F (i - 1))) false) false true = true
        rw [this]; rfl
      · rw [decide_eq_false (show ¬ (i:Int) > p.x1 by omega)]; rfl
    simp only [r198_1, hd, Tr.ok, Tr.get]
    refine ⟨⟨nd, fun _ => trivial, (fun e => by cases e)⟩, .inl ⟨⟨_, _, _, rfl⟩, ?_⟩⟩
    cases i with
    | zero => rfl
    | succ k =>
      show ar F n = if k + 1 > a && ltInt (ar F n)[k + 1]! (ar F n)[k]! then insInner ltInt a k (swp (ar F n) (k + 1) k) else ar F n
      rw [lt_ar g2 (by omega), if_neg]
      simp only [Bool.and_eq_true, decide_eq_true_eq]
      exact hc
theorem l198_0 {p : P198_0} {s : S198_0} {a b n i : Nat} (hp : p.x1 = a ∧ p.x2 = b ∧ p.n0 = n ∧ p.N0 = n ∧ n < 4611686018427387904 ∧ b ≤ n) (hs : s.x6 = i ∧ a + 1 ≤ i) : LT (r198_0 p) s ∧ ar (lastS (r198_0 p) s).F0_0 n = insOuter ltInt a b i (ar s.F0_0 n) := by
  obtain ⟨h1, h2, h0, hN, hn, hb⟩ := hp
  refine LT.post (fun t : S198_0 => ∃ k : Nat, t.x6 = k ∧ insOuter ltInt a b k (ar t.F0_0 n) = insOuter ltInt a b i (ar s.F0_0 n)) (fun t : S198_0 => ar t.F0_0 n = insOuter ltInt a b i (ar s.F0_0 n)) (fun t : S198_0 => b - t.x6.toNat) ?_ ⟨i, hs.1, rfl⟩
  rintro ⟨x6, F⟩ ⟨k, g1, g3⟩
  simp only at g1 g3
  subst g1
  rw [← g3]
  by_cases hc : k < b
  · have hd : e198_0_0 p ⟨k, F⟩ = false := by
      show cnd (decide ((k:Int) < p.x2)) false true = false
      rw [h2, decide_eq_true (by omega)]; rfl
    have m := l198_1 (p := P198_1.mk p.n0 p.x1 p.x2 k p.N0) (s := ⟨k, F⟩) (a := a) (n := n) (j := k) ⟨h1, h0, hN, hn⟩ ⟨rfl, by omega⟩
    have w : IntKind.i64.wrap ((k:Int) + 1) = ((k + 1:Nat):Int) := by rw [wi (by omega) (by omega)]; omega
    simp only [r198_0, hd, Tr.ok, Tr.get]
    refine ⟨⟨(fun e => by cases e), fun _ => ⟨m.1, trivial⟩⟩, .inr ⟨_, rfl, ⟨k + 1, w, ?_⟩, by show b - (IntKind.i64.wrap ((k:Int) + 1)).toNat < b - (k:Int).toNat; rw [w]; omega⟩⟩
    show insOuter ltInt a b (k + 1) (ar (e198_0_6 p ⟨k, F⟩) n) = _
    have e6 : ar (e198_0_6 p ⟨k, F⟩) n = insInner ltInt a k (ar F n) := m.2
    rw [e6, insOuter.eq_1 (i := k), if_pos hc]
  · have hd : e198_0_0 p ⟨k, F⟩ = true := by
      show cnd (decide ((k:Int) < p.x2)) false true = true
      rw [h2, decide_eq_false (by omega)]; rfl
    simp only [r198_0, hd, Tr.ok, Tr.get]
    refine ⟨⟨fun _ => trivial, (fun e => by cases e)⟩, .inl ⟨⟨_, _, _, rfl⟩, ?_⟩⟩
    show ar F n = _
    rw [insOuter.eq_1 (i := k), if_neg hc]
def pre198 (v : V198) : Prop := v.Q = v.L ∧ v.L < 4611686018427387904 ∧ 0 ≤ v.a ∧ v.a ≤ v.b ∧ v.b ≤ v.L
theorem n198 (v : V198) (h : pre198 v) : (f198 v).ok ∧ (f198 v).get.1 = .tup [] ∧ HOws (f198 v).get.2.1 [HO.row 22 1 v.L (fun j => [.int .u64 (gt (Go.Sort.insertionSort Go.Sort.ltInt (ar v.F v.L) v.a.toNat v.b.toNat) j)])] := by
  obtain ⟨hQ, hn, a0, hab, hb⟩ := h
  have m : LT (r198_0 (P198_0.mk v.L v.a v.b v.Q)) (f198_4 v) ∧ ar (f198z0 v).F0_0 v.L = insOuter ltInt v.a.toNat v.b.toNat (v.a.toNat + 1) (ar v.F v.L) :=
    l198_0 (p := P198_0.mk v.L v.a v.b v.Q) (s := f198_4 v) (a := v.a.toNat) (b := v.b.toNat) (n := v.L) (i := v.a.toNat + 1) ⟨(by show v.a = _; omega), (by show v.b = _; omega), rfl, hQ, hn, by omega⟩ ⟨(by show IntKind.i64.wrap (v.a + 1) = _; rw [wi (by omega) (by omega)]; omega), by omega⟩
  refine ⟨⟨m.1, trivial⟩, rfl, ?_⟩
  simp only [f198, Tr.get, f198_3]
  exact .cons (HOw_ar hQ m.2) .nil
noncomputable def f198n (v : V198) : Tr (Fin th.R) := .need (pre198 v) (.leaf (.tup [], [.row 22 1 v.L (fun j => [.int .u64 (gt (Go.Sort.insertionSort Go.Sort.ltInt (ar v.F v.L) v.a.toNat v.b.toNat) j)])], [0]))
theorem s198n : Sound Try.prog th 198 (fnC d198 ofV198 f198n) := fnC_refine s198 fun v h => by
  obtain ⟨hp, _⟩ := h
  obtain ⟨a, b, c⟩ := n198 v hp
  exact ⟨a, b.symm, (qdd198 v).symm, c, by show 1 ≤ 1; decide⟩
noncomputable def nice198n : List (Nat × CF th.R) := (198, lift (fnC d198 ofV198 f198n)) :: nice204n
theorem nok198n : NiceOk Try.prog th nice198n := ⟨lift_sound s198n, nok204n⟩
end Go.Sx.M

namespace Go.Sx.M
open Go Go.Sx Go.Proofs Go.RowKit
set_option maxRecDepth 100000
theorem cw198 (v : V198) : fnC d198 ofV198 f198n (A198 v) (H198 v) = some (.need (∀ i, i < v.Q → (fun j => [.int .u64 (v.F j)] : Nat → List SV) i = elC (fun j => [.int .u64 (v.F j)] : Nat → List SV) 0 [.int .u64] i) ((f198n v).map (fixF (H198 v)))) := by kernel_rfl
/-! ### pdqsort of at most twelve -/
structure V189 where
  L : Nat
  a : Int
  b : Int
  c : Int
  Q : Nat
  F : Nat → Int
def A189 (v : V189) : List SV := [.slc 0 1 0 v.L, .int .i64 v.a, .int .i64 v.b, .int .i64 v.c]
def H189 (v : V189) : List (HO th.R) := [.row 22 1 v.Q (fun j => [.int .u64 (v.F j)])]
def toV189 (v : V189) : List (Vl th.R) := [.n v.L, .i v.a, .i v.b, .i v.c, .n v.Q, .c v.F]
def ofV189 : List (Vl th.R) → Option V189
  | [.n L, .i a, .i b, .i c, .n Q, .c F] => some ⟨L, a, b, c, Q, F⟩
  | _ => none
def d189 : Ft := ⟨[.slc0 0 1, .int .i64, .int .i64, .int .i64], [.rowc 22 [.int .u64]]⟩
def pre189 (v : V189) : Prop := v.Q = v.L ∧ v.L < 4611686018427387904 ∧ 0 ≤ v.a ∧ v.a ≤ v.b ∧ v.b ≤ v.L ∧ v.b - v.a ≤ 12
noncomputable def f189 (v : V189) : Tr (Fin th.R) := .need (pre189 v) (.leaf (.tup [], [.row 22 1 v.L (fun j => [.int .u64 (gt (Go.Sort.insertionSort Go.Sort.ltInt (ar v.F v.L) v.a.toNat v.b.toNat) j)])], [0]))
theorem walk189 {v0 : Value} {a b c : Int} {w : World} {Q : Ending → World → Prop} (h12 : wrap64 (b - a) ≤ 12) (h : Calls Try.prog 198 #[v0, .int .i64 a, .int .i64 b] w fun e w' => e = .returned (.tuple #[]) ∧ Q (.returned (.tuple #[])) w') :
    Calls Try.prog 189 #[v0, .int .i64 a, .int .i64 b, .int .i64 c] w Q := by
  go_enter Try.func189, Try.ntmps189
  go_wp2
  refine wp_loop_rounds 1 ?_
  rw [rounds_succ]
  go_wp2_with (go_at_call 198; refine h.mono ?_; rintro e w' ⟨rfl, hq⟩)
  go_end0
  exact hq
theorem s189 : Sound Try.prog th 189 (fnC d189 ofV189 f189) := by
  refine fnC_direct (T := th) d189 A189 H189 toV189 (by kernel_rfl) (fun v => by kernel_rfl) ?_ ?_ (fun v _ => by show 1 ≤ 1; decide) (fun v _ n hn hd => ?_)
  · intro l v h
    unfold ofV189 at h
    split at h
    · cases h; rfl
    · cases h
  · intro v hok K w0 ρ w vargs I hr
    obtain ⟨⟨hQ, hn, a0, hab, hb, h12⟩, _⟩ := hok
    obtain ⟨v0, xs, rfl, hv0, y, ys, rfl, hy, z, zs, rfl, hz, u, us, rfl, hu, hus⟩ := hr
    have hy : y = .int .i64 v.a := hy
    have hz : z = .int .i64 v.b := hz
    have hu : u = .int .i64 v.c := hu
    have hus : us = [] := hus
    subst hy hz hu hus
    have hc := fnC_out s198n (cw198 ⟨v.L, v.a, v.b, v.Q, v.F⟩) (⟨fun i _ => rfl, ⟨hQ, hn, a0, hab, hb⟩, trivial⟩ : _) I (vargs := [v0, .int .i64 v.a, .int .i64 v.b]) ⟨v0, _, rfl, hv0, _, _, rfl, rfl, _, _, rfl, rfl, rfl⟩
    refine walk189 (by unfold wrap64; omega) (hc.mono ?_)
    rintro e w' ⟨ρ', cv, rfl, hp, I', hcv⟩
    have hcv : cv = .tuple #[] := by
      obtain ⟨cs, rfl, hcs⟩ := hcv
      have hcs : cs = [] := hcs
      rw [hcs]
    subst hcv
    exact ⟨rfl, ρ', _, rfl, hp, I', ⟨[], rfl, rfl⟩⟩
  · have hn : n < 1 := hn
    have : n = 0 := by omega
    subst this
    exact absurd List.mem_cons_self hd
noncomputable def niceP7 : List (Nat × CF th.R) := (189, lift (fnC d189 ofV189 f189)) :: nice198n
theorem nokP7 : NiceOk Try.prog th niceP7 := ⟨lift_sound s189, nok198n⟩
end Go.Sx.M


namespace Go.Proofs
open Go.RowKit Go.Sort
abbrev encU : Int → Value := fun x => Value.int .u64 x
set_option maxRecDepth 1000000 in
set_option maxHeartbeats 1000000 in
theorem su_cmp_isNaN_int (x:Int) (w : World) : Calls Try.prog 219 #[.int .u64 x] w fun e w' => e = .returned (.bool false) ∧ w' = w := by
  go_enter Try.func219, Try.ntmps219
  go_wp2
  go_ret
  exact ⟨by simp, rfl⟩

set_option maxHeartbeats 1000000 in
theorem su_cmp_Less_int (x y:Int) (w : World) : Calls Try.prog 204 #[.int .u64 x, .int .u64 y] w fun e w' => e = .returned (.bool (Sort.ltInt x y)) ∧ w' = w := by
  go_enter Try.func204, Try.ntmps204
  go_wp2_with (go_at_call 219; refine (su_cmp_isNaN_int _ _).mono ?_; rintro e w' ⟨rfl, rfl⟩)
  go_ret
  exact ⟨rfl, rfl⟩

def OkOs (os : Array Obj) : Prop := ∀ o, o ∈ os → ∃ c t, o = .cells c t (0, 0)
abbrev OsU := {os : Array Obj // OkOs os}
theorem okNone : OkOs #[] := fun o h => by simp at h
theorem okOne (c : Array Value) (t : TypeId) : OkOs #[Obj.cells c t] := fun o h => by
  simp at h; exact ⟨c, t, h⟩
theorem okAppend {a b : Array Obj} (ha : OkOs a) (hb : OkOs b) : OkOs (a ++ b) := fun o h => by
  rcases Array.mem_append.1 h with h | h
  · exact ha o h
  · exact hb o h
def AtU {α : Type} [Inhabited α] (enc : α → Value) (w : World) (blk off:Nat) (d : Array α) (wr : World) : Prop := ∃ (n:Nat) (os : OsU), wr = grow (putRow enc (Sort.ahead w n) blk off d) os.1
section
variable {α : Type} [Inhabited α] {enc : α → Value} {w wr w1 : World} {blk off : Nat} {d d' d0 : Array α}
theorem AtU.refl (h : Holds enc w blk off d) : AtU enc w blk off d w := ⟨0, ⟨#[], okNone⟩, by rw [grow_empty, ahead_zero, putRow_self enc w blk off d h]⟩
theorem AtU.holds (h : AtU enc w blk off d wr) (h0 : Holds enc w blk off d0) (hs : d.size = d0.size) (hb : blk < w.heap.size) : Holds enc wr blk off d ∧ blk < wr.heap.size := by
  obtain ⟨n, os, rfl⟩ := h
  exact ⟨holds_grow enc _ os.1 blk off d (by simpa using hb) (holds_putRow enc _ blk off d0 d (holds_ahead enc w n blk off d0 h0) hs), by simp; omega⟩
theorem AtU.step (h : AtU enc w blk off d wr) (hb : blk < w.heap.size) (hs : d'.size = d.size) (h1 : ∃ m, w1 = putRow enc (Sort.ahead wr m) blk off d') : AtU enc w blk off d' w1 := by
  obtain ⟨n, os, rfl⟩ := h
  obtain ⟨m, rfl⟩ := h1
  exact ⟨n + m, os, grow_step enc w os.1 n m blk off d d' hb hs⟩
theorem AtU.stepG (h : AtU enc w blk off d wr) (hb : blk < w.heap.size) (hs : d'.size = d.size) (h1 : ∃ (m:Nat) (os' : OsU), w1 = grow (putRow enc (Sort.ahead wr m) blk off d') os'.1) : AtU enc w blk off d' w1 := by
  obtain ⟨n, os, rfl⟩ := h
  obtain ⟨m, os', rfl⟩ := h1
  exact ⟨n + m, ⟨os.1 ++ os'.1, okAppend os.2 os'.2⟩, grow_step_grow enc w os.1 os'.1 n m blk off d d' hb hs⟩
theorem AtU.same (h : AtU enc w blk off d wr) (h0 : Holds enc w blk off d0) (hs : d.size = d0.size) (hb : blk < w.heap.size) (h1 : ∃ (m:Nat) (os' : OsU), w1 = grow (Sort.ahead wr m) os'.1) : AtU enc w blk off d w1 := by
  obtain ⟨m, os', rfl⟩ := h1
  refine h.stepG hb rfl ⟨m, os', ?_⟩
  rw [putRow_self enc (Sort.ahead wr m) blk off d (holds_ahead enc wr m blk off d (h.holds h0 hs hb).1)]
theorem AtU.ahead (h : AtU enc w blk off d wr) (m:Nat) : AtU enc w blk off d (Sort.ahead wr m) := by
  obtain ⟨n, os, rfl⟩ := h
  exact ⟨n + m, os, by rw [← ahead_ahead]; rfl⟩
end
theorem counter_growU (w : World) (N S:Nat) : ∃ os : OsU, putRow (Value.int .i64) (Sort.ahead (w.alloc (.cells #[.int .i64 0] 3)) N) w.heap.size 0 (one S) = grow (Sort.ahead w N) os.1 := by
  refine ⟨⟨#[Obj.cells #[.int .i64 (S:Int)] 3], okOne _ _⟩, ?_⟩
  have hS0 : Holds (Value.int .i64) (Sort.ahead (w.alloc (.cells #[.int .i64 0] 3)) N) w.heap.size 0 (one 0) := holds_ahead _ _ _ _ _ _ fun j hj => by
    obtain rfl : j = 0 := by simpa using hj
    simp
  rw [← one_set hS0 S, alloc_eq_grow, ahead_grow]
  exact setCell_grow_one (Sort.ahead w N) (.int .i64 0) (.int .i64 (S:Int)) 3
end Go.Proofs

namespace Go.Proofs
open Go.RowKit Go.Sort
set_option maxHeartbeats 3200000 in
set_option maxRecDepth 1000000 in
theorem su_siftDown_int (blk off len cap:Nat) (d : Array Int) (hlen : d.size = len) (lo hi first:Nat) (w : World) (hH : Holds encU w blk off d) (hlo : lo ≤ hi) (hb : first + hi ≤ d.size) (hsz : d.size < 4611686018427387904) :
    Calls Try.prog 214 #[.slice (some ⟨blk, off, none⟩) len cap, .int .i64 lo, .int .i64 hi, .int .i64 first] w fun e w' => e = .returned (.tuple #[]) ∧ ∃ n, w' = putRow encU (Sort.ahead w n) blk off (siftDown ltInt hi first lo d) := by
  subst hlen
  go_enter Try.func214, Try.ntmps214
  go_wp2
  go_loopg [8] (hi - lo) (fun k s8 wr => ∃ (root:Nat) (dk : Array Int) (n:Nat), s8 = .int .i64 root ∧ root ≤ hi ∧ hi - root ≤ k ∧ dk.size = d.size ∧ wr = putRow encU (Sort.ahead w n) blk off dk ∧ siftDown ltInt hi first root dk = siftDown ltInt hi first lo d)
  case atStart => exact ⟨lo, d, 0, rfl, hlo, Nat.le_refl _, rfl, (putRow_self encU w blk off d hH).symm, rfl⟩
  case round =>
    obtain ⟨root, dk, n, rfl, hr, hk, hds, hwr, heq⟩ := hrel
    have hHk : Holds encU wr blk off dk := by rw [hwr]; exact holds_putRow encU _ blk off d dk (holds_ahead encU w n blk off d hH) hds
    -- THE ROW's TWO FAMILIES (the authors' Derived/CellFam.lean finds each cell in them)
    have hcw : ∀ t, t < d.size → wr.cell? ⟨blk, off + t, none⟩ = some (.int .u64 dk[t]!) := fun t ht => (hHk t (by omega)).1
    have hfw : ∀ t, t < d.size → wr.frozen? ⟨blk, off + t, none⟩ = false := fun t ht => (hHk t (by omega)).2
    have A : Aside (wr = putRow encU (Sort.ahead w n) blk off dk) := hwr
    clear hwr hH hHk
    by_cases h0 : hi ≤ 2 * root + 1
    · -- no child: the loop is left
      have h0z : (hi:Int) ≤ 2 * (root:Int) + 1 := by omega
      go_wp2
      go_end0
      refine ⟨rfl, n, ?_⟩
      rw [A.out, ← heq, sd_end ltInt dk h0]
    · -- (the tests, AS THE WALK SPELLS THEM: over Int: a guard that is not decided stops the quiet walk)
      have h0z : ¬ ((hi:Int) ≤ 2 * (root:Int) + 1) := by omega
      by_cases h1 : 2 * root + 2 < hi
      · have h1z : 2 * (root:Int) + 1 + 1 < (hi:Int) := by omega
        go_wp2_with fail
        go_big_quiet (first | (go_at_call 204; refine Calls.quiet_of_same (su_cmp_Less_int _ _ _)))
        go_wp2_with fail
        · -- THE RIGHT CHILD IS THE GREATER
          have hL : ltInt dk[first + 2 * root + 1]! dk[first + 2 * root + 2]! = true := by assumption
          revert nq; intro nq1      -- (the next quiet region brings an 'nq' of its own)
          have hcw2 : ∀ t, t < d.size → (wr.drewN nq1).cell? ⟨blk, off + t, none⟩ = some (.int .u64 dk[t]!) := hcw
          have hfw2 : ∀ t, t < d.size → (wr.drewN nq1).frozen? ⟨blk, off + t, none⟩ = false := hfw
          have A2 : Aside (wr.drewN nq1 = putRow encU (Sort.ahead w (n + nq1)) blk off dk) := drewN_world encU A.out nq1
          clear hcw hfw A
          generalize wr.drewN nq1 = wr2 at hcw2 hfw2 A2 ⊢
          go_big_quiet (first | (go_at_call 204; refine Calls.quiet_of_same (su_cmp_Less_int _ _ _)))
          go_wp2_with fail
          · -- the hole is not less than the greater child: return
            have hS : ltInt dk[first + root]! dk[first + 2 * root + 2]! = false := by
              have : (!ltInt dk[first + root]! dk[first + 2 * root + 2]!) = true := by assumption
              simpa using this
            (try simp only [Exit.inBlock, Exit.then]); refine bodyPost_ret (results_none rfl _ _ _) rfl ?_      -- (an explicit 'return' of a function without results)
            refine ⟨rfl, n + nq1 + nq, ?_⟩
            rw [drewN_world encU A2.out nq, ← heq, sd_right_stop ltInt dk h1 hL hS]
          · -- it is: they are swapped, and the hole goes down
            have hG : ltInt dk[first + root]! dk[first + 2 * root + 2]! = true := by
              have : (!ltInt dk[first + root]! dk[first + 2 * root + 2]!) = false := by assumption
              simpa using this
            have hcw3 : ∀ t, t < d.size → (wr2.drewN nq).cell? ⟨blk, off + t, none⟩ = some (.int .u64 dk[t]!) := hcw2
            have hfw3 : ∀ t, t < d.size → (wr2.drewN nq).frozen? ⟨blk, off + t, none⟩ = false := hfw2
            have A3 : Aside (wr2.drewN nq = putRow encU (Sort.ahead w (n + nq1 + nq)) blk off dk) := drewN_world encU A2.out nq
            clear hcw2 hfw2 A2
            generalize wr2.drewN nq = wr3 at hcw3 hfw3 A3 ⊢
            go_region
            go_wp2
            go_roundg (hi - (2 * root + 2))
            case measure => omega
            case rel =>
              refine ⟨2 * root + 2, swp dk (first + root) (first + (2 * root + 1 + 1)), n + nq1 + nq + 1, by simp <;> omega, by omega, Nat.le_refl _, by rw [size_swp]; exact hds, swap_world encU (by omega) (by omega) A3.out rfl rfl, ?_⟩
              rw [← heq, sd_right_go ltInt dk h1 hL hG]
        · -- THE LEFT CHILD IS NOT LESS THAN THE RIGHT
          have hL : ltInt dk[first + 2 * root + 1]! dk[first + 2 * root + 2]! = false := by assumption
          revert nq; intro nq1      -- (the next quiet region brings an 'nq' of its own)
          have hcw2 : ∀ t, t < d.size → (wr.drewN nq1).cell? ⟨blk, off + t, none⟩ = some (.int .u64 dk[t]!) := hcw
          have hfw2 : ∀ t, t < d.size → (wr.drewN nq1).frozen? ⟨blk, off + t, none⟩ = false := hfw
          have A2 : Aside (wr.drewN nq1 = putRow encU (Sort.ahead w (n + nq1)) blk off dk) := drewN_world encU A.out nq1
          clear hcw hfw A
          generalize wr.drewN nq1 = wr2 at hcw2 hfw2 A2 ⊢
          go_big_quiet (first | (go_at_call 204; refine Calls.quiet_of_same (su_cmp_Less_int _ _ _)))
          go_wp2_with fail
          · -- the hole is not less than the greater child: return
            have hS : ltInt dk[first + root]! dk[first + 2 * root + 1]! = false := by
              have : (!ltInt dk[first + root]! dk[first + 2 * root + 1]!) = true := by assumption
              simpa using this
            (try simp only [Exit.inBlock, Exit.then]); refine bodyPost_ret (results_none rfl _ _ _) rfl ?_      -- (an explicit 'return' of a function without results)
            refine ⟨rfl, n + nq1 + nq, ?_⟩
            rw [drewN_world encU A2.out nq, ← heq, sd_left_stop ltInt dk (by omega) (fun _ => hL) hS]
          · -- it is: they are swapped, and the hole goes down
            have hG : ltInt dk[first + root]! dk[first + 2 * root + 1]! = true := by
              have : (!ltInt dk[first + root]! dk[first + 2 * root + 1]!) = false := by assumption
              simpa using this
            have hcw3 : ∀ t, t < d.size → (wr2.drewN nq).cell? ⟨blk, off + t, none⟩ = some (.int .u64 dk[t]!) := hcw2
            have hfw3 : ∀ t, t < d.size → (wr2.drewN nq).frozen? ⟨blk, off + t, none⟩ = false := hfw2
            have A3 : Aside (wr2.drewN nq = putRow encU (Sort.ahead w (n + nq1 + nq)) blk off dk) := drewN_world encU A2.out nq
            clear hcw2 hfw2 A2
            generalize wr2.drewN nq = wr3 at hcw3 hfw3 A3 ⊢
            go_region
            go_wp2
            go_roundg (hi - (2 * root + 1))
            case measure => omega
            case rel =>
              refine ⟨2 * root + 1, swp dk (first + root) (first + (2 * root + 1)), n + nq1 + nq + 1, by simp <;> omega, by omega, Nat.le_refl _, by rw [size_swp]; exact hds, swap_world encU (by omega) (by omega) A3.out rfl rfl, ?_⟩
              rw [← heq, sd_left_go ltInt dk (by omega) (fun _ => hL) hG]
      · -- THERE IS NO RIGHT CHILD
        have h1z : decide (2 * (root:Int) + 1 + 1 < (hi:Int)) = false := decide_eq_false (by omega)      -- (a guard that is FALSE: said so outright: from '¬ ..' the walk did not decide it)
        go_wp2_with fail
        go_big_quiet (first | (go_at_call 204; refine Calls.quiet_of_same (su_cmp_Less_int _ _ _)))
        go_wp2_with fail
        revert nq; intro nq1      -- (the next quiet region brings an 'nq' of its own)
        have hcw2 : ∀ t, t < d.size → (wr.drewN nq1).cell? ⟨blk, off + t, none⟩ = some (.int .u64 dk[t]!) := hcw
        have hfw2 : ∀ t, t < d.size → (wr.drewN nq1).frozen? ⟨blk, off + t, none⟩ = false := hfw
        have A2 : Aside (wr.drewN nq1 = putRow encU (Sort.ahead w (n + nq1)) blk off dk) := drewN_world encU A.out nq1
        clear hcw hfw A
        generalize wr.drewN nq1 = wr2 at hcw2 hfw2 A2 ⊢
        go_big_quiet (first | (go_at_call 204; refine Calls.quiet_of_same (su_cmp_Less_int _ _ _)))
        go_wp2_with fail
        · -- the hole is not less than the greater child: return
          have hS : ltInt dk[first + root]! dk[first + 2 * root + 1]! = false := by
            have : (!ltInt dk[first + root]! dk[first + 2 * root + 1]!) = true := by assumption
            simpa using this
          (try simp only [Exit.inBlock, Exit.then]); refine bodyPost_ret (results_none rfl _ _ _) rfl ?_      -- (an explicit 'return' of a function without results)
          refine ⟨rfl, n + nq1 + nq, ?_⟩
          rw [drewN_world encU A2.out nq, ← heq, sd_left_stop ltInt dk (by omega) (fun h => absurd h h1) hS]
        · -- it is: they are swapped, and the hole goes down
          have hG : ltInt dk[first + root]! dk[first + 2 * root + 1]! = true := by
            have : (!ltInt dk[first + root]! dk[first + 2 * root + 1]!) = false := by assumption
            simpa using this
          have hcw3 : ∀ t, t < d.size → (wr2.drewN nq).cell? ⟨blk, off + t, none⟩ = some (.int .u64 dk[t]!) := hcw2
          have hfw3 : ∀ t, t < d.size → (wr2.drewN nq).frozen? ⟨blk, off + t, none⟩ = false := hfw2
          have A3 : Aside (wr2.drewN nq = putRow encU (Sort.ahead w (n + nq1 + nq)) blk off dk) := drewN_world encU A2.out nq
          clear hcw2 hfw2 A2
          generalize wr2.drewN nq = wr3 at hcw3 hfw3 A3 ⊢
          go_region
          go_wp2
          go_roundg (hi - (2 * root + 1))
          case measure => omega
          case rel =>
            refine ⟨2 * root + 1, swp dk (first + root) (first + (2 * root + 1)), n + nq1 + nq + 1, by simp <;> omega, by omega, Nat.le_refl _, by rw [size_swp]; exact hds, swap_world encU (by omega) (by omega) A3.out rfl rfl, ?_⟩
            rw [← heq, sd_left_go ltInt dk (by omega) (fun h => absurd h h1) hG]

set_option maxHeartbeats 3200000 in
set_option maxRecDepth 1000000 in
theorem su_heapSort_int (blk off len cap:Nat) (d : Array Int) (hlen : d.size = len) (a b:Nat) (w : World) (hH : Holds encU w blk off d) (hab : a ≤ b) (hb : b ≤ d.size) (hsz : d.size < 4611686018427387904) :
    Calls Try.prog 199 #[.slice (some ⟨blk, off, none⟩) len cap, .int .i64 a, .int .i64 b] w fun e w' => e = .returned (.tuple #[]) ∧ ∃ n, w' = putRow encU (Sort.ahead w n) blk off (heapSort ltInt d a b) := by
  subst hlen
  have ecast : ((b - a:Nat):Int) = (b:Int) - (a:Int) := by omega
  go_enter Try.func199, Try.ntmps199
  go_wp2
  go_loopg [9] ((b - a - 1) / 2 + 1) (fun k s9 wr => s9 = .int .i64 ((k:Int) - 1) ∧ k ≤ (b - a - 1) / 2 + 1 ∧ ∃ (dk : Array Int) (n:Nat), dk.size = d.size ∧ wr = putRow encU (Sort.ahead w n) blk off dk ∧
    heapBuild ltInt (b - a) a k dk = heapBuild ltInt (b - a) a ((b - a - 1) / 2 + 1) d)
  case atStart => exact ⟨by rw [half_start hab], Nat.le_refl _, d, 0, rfl, (putRow_self encU w blk off d hH).symm, rfl⟩
  case round =>
    obtain ⟨rfl, hkk, dk, n, hds, hwr, heq⟩ := hrel
    have hHk : Holds encU wr blk off dk := by rw [hwr]; exact holds_putRow encU _ blk off d dk (holds_ahead encU w n blk off d hH) hds
    have A : Aside (wr = putRow encU (Sort.ahead w n) blk off dk) := hwr
    clear hwr
    cases gk with
    | zero =>
      -- THE HEAP IS BUILT; NOW THE GREATEST IS TAKEN OFF, TIME AND AGAIN
      have hB : dk = heapBuild ltInt (b - a) a ((b - a - 1) / 2 + 1) d := heq
      clear heq hHk hkk
      go_wp2
      go_loopg [10] (b - a) (fun k s10 wr2 => s10 = .int .i64 ((k:Int) - 1) ∧ k ≤ b - a ∧ ∃ (dj : Array Int) (n2:Nat), dj.size = d.size ∧ wr2 = putRow encU (Sort.ahead w n2) blk off dj ∧ heapPop ltInt a k dj = heapPop ltInt a (b - a) dk)
      case atStart => exact ⟨by rw [ecast], Nat.le_refl _, dk, n, hds, A.out, rfl⟩
      case round =>
        obtain ⟨rfl, hkk, dj, n2, hdj, hwr2, heq2⟩ := hrel
        cases gk with
        | zero =>
          go_wp2
          go_end0
          refine ⟨rfl, n2, ?_⟩
          have e : dj = heapSort ltInt d a b := by rw [heapSort, ← hB, ← heq2]; rfl
          rw [← e]
        | succ k =>
          have hHj : Holds encU wr blk off dj := by rw [hwr2]; exact holds_putRow encU _ blk off d dj (holds_ahead encU w n2 blk off d hH) hdj
          have hcw : ∀ t, t < d.size → wr.cell? ⟨blk, off + t, none⟩ = some (.int .u64 dj[t]!) := fun t ht => (hHj t (by omega)).1
          have hfw : ∀ t, t < d.size → wr.frozen? ⟨blk, off + t, none⟩ = false := fun t ht => (hHj t (by omega)).2
          have A2 : Aside (wr = putRow encU (Sort.ahead w n2) blk off dj) := hwr2
          clear hwr2 hHj
          -- ✋ AT THE LAST ROUND (i = 0) 'data[first]' AND 'data[first+i]' ARE ONE CELL: the walk cannot tell whether the second store hits the cell just written: PART AHEAD OF THE REGION
          rcases Nat.eq_zero_or_pos k with hk0 | hkp
          · subst hk0
            go_wp2_with fail
            go_region
            go_wp2_with fail
            rw [swap_world encU (i := a) (j := a) (by omega) (by omega) A2.out rfl rfl]
            refine (su_siftDown_int blk off d.size cap (swp dj a (a)) (by rw [size_swp]; exact hdj) 0 0 a _ (holds_putRow encU _ blk off d _ (holds_ahead encU w (n2 + 1) blk off d hH) (by rw [size_swp]; exact hdj)) (Nat.zero_le _) (by rw [size_swp]; omega) (by rw [size_swp]; omega)).mono ?_
            rintro e w1 ⟨rfl, m, hw1⟩
            go_wp2
            go_roundg 0
            case measure => omega
            case rel =>
              refine ⟨by simp, by omega, siftDown ltInt 0 a 0 (swp dj a (a)), n2 + 1 + m, by rw [size_siftDown ltInt _ _ _ _ _ (Nat.le_refl _), size_swp]; exact hdj, ?_, heq2⟩
              first
                | rw [hw1, putRow_ahead_putRow encU w (n2 + 1) m blk off _ _ (size_siftDown ltInt _ _ _ _ _ (Nat.le_refl _))]
                | rw [putRow_ahead_putRow encU w (n2 + 1) m blk off _ _ (size_siftDown ltInt _ _ _ _ _ (Nat.le_refl _))]
          · skip
            go_wp2_with fail
            go_region
            go_wp2_with fail
            rw [swap_world encU (i := a) (j := a + k) (by omega) (by omega) A2.out rfl rfl]
            refine (su_siftDown_int blk off d.size cap (swp dj a (a + k)) (by rw [size_swp]; exact hdj) 0 k a _ (holds_putRow encU _ blk off d _ (holds_ahead encU w (n2 + 1) blk off d hH) (by rw [size_swp]; exact hdj)) (Nat.zero_le _) (by rw [size_swp]; omega) (by rw [size_swp]; omega)).mono ?_
            rintro e w1 ⟨rfl, m, hw1⟩
            go_wp2
            go_roundg k
            case measure => omega
            case rel =>
              refine ⟨by simp, by omega, siftDown ltInt k a 0 (swp dj a (a + k)), n2 + 1 + m, by rw [size_siftDown ltInt _ _ _ _ _ (Nat.le_refl _), size_swp]; exact hdj, ?_, heq2⟩
              first
                | rw [hw1, putRow_ahead_putRow encU w (n2 + 1) m blk off _ _ (size_siftDown ltInt _ _ _ _ _ (Nat.le_refl _))]
                | rw [putRow_ahead_putRow encU w (n2 + 1) m blk off _ _ (size_siftDown ltInt _ _ _ _ _ (Nat.le_refl _))]
    | succ k =>
      have hcall := su_siftDown_int blk off d.size cap dk hds k (b - a) a wr hHk (by omega) (by omega) (by omega)
      rw [ecast] at hcall
      go_wp2_with (go_at_call 214; refine hcall.mono ?_; rintro e w1 ⟨rfl, m, hw1⟩)
      go_roundg k
      case measure => omega
      case rel =>
        refine ⟨by simp, by omega, siftDown ltInt (b - a) a k dk, n + m, by rw [size_siftDown ltInt _ _ _ _ _ (Nat.le_refl _)]; exact hds, ?_, heq⟩
        rw [A.out, putRow_ahead_putRow encU w n m blk off dk _ (size_siftDown ltInt _ _ _ _ _ (Nat.le_refl _))]
end Go.Proofs

namespace Go.Proofs
open Go.RowKit Go.Sort
set_option maxHeartbeats 1600000 in
set_option maxRecDepth 1000000 in
theorem su_reverseRange_int (blk off cap:Nat) (d : Array Int) (a b:Nat) (w : World) (hH : Holds encU w blk off d) (hab : a ≤ b) (hb : b ≤ d.size) (hsz : d.size < 4611686018427387904) :
    Calls Try.prog 202 #[.slice (some ⟨blk, off, none⟩) d.size cap, .int .i64 a, .int .i64 b] w fun e w' => e = .returned (.tuple #[]) ∧ ∃ n, w' = putRow encU (Sort.ahead w n) blk off (reverseRange d a b) := by
  go_enter Try.func202, Try.ntmps202
  go_wp2
  go_loopg [6, 7] (b - a) (fun k s6 s7 wr => ∃ (i jn:Nat) (jz:Int) (dk : Array Int) (n:Nat), s6 = .int .i64 i ∧ s7 = .int .i64 jz ∧ ((i:Int) < jz → jz = jn ∧ jn < d.size) ∧ (¬ (i:Int) < jz → ¬ i < jn) ∧ jn - i ≤ k ∧
    dk.size = d.size ∧ wr = putRow encU (Sort.ahead w n) blk off dk ∧ reverseLoop i jn dk = reverseLoop a (b - 1) d)
  case atStart => exact ⟨a, b - 1, (b:Int) - 1, d, 0, rfl, rfl, fun h => ⟨by omega, by omega⟩, fun h => by omega, by omega, rfl, (putRow_self encU w blk off d hH).symm, rfl⟩
  case round =>
    obtain ⟨i, jn, jz, dk, n, rfl, rfl, h1, h2, hk, hds, hwr, heq⟩ := hrel
    by_cases hlt : (i:Int) < jz
    · obtain ⟨rfl, hjn⟩ := h1 hlt
      have hij : i < jn := by omega
      have hHk : Holds encU wr blk off dk := by rw [hwr]; exact holds_putRow encU _ blk off d dk (holds_ahead encU w n blk off d hH) hds
      obtain ⟨ci, fi⟩ := hHk i (by omega)
      obtain ⟨cj, fj⟩ := hHk jn (by omega)
      have A : Aside (wr = putRow encU (Sort.ahead w n) blk off dk) := hwr
      clear hwr hHk hH h1 h2
      go_wp2_with fail
      go_region
      go_wp2
      go_roundg (jn - 1 - (i + 1))
      case measure => omega
      case rel =>
        rw [reverseLoop, if_pos hij] at heq
        exact ⟨i + 1, jn - 1, (jn:Int) - 1, swp dk i jn, n + 1, by simp, rfl, fun h => ⟨by omega, by omega⟩, fun h => by omega, Nat.le_refl _, by rw [size_swp]; exact hds,
          swap_world encU (by omega) (by omega) A.out (by simp [encU, getElem!_pos, show jn < dk.size by omega]) rfl, heq⟩
    · have hnot := h2 hlt
      go_wp2
      go_end0
      refine ⟨rfl, n, ?_⟩
      rw [reverseLoop, if_neg hnot] at heq
      rw [reverseRange, ← heq]
end Go.Proofs

namespace Go.Proofs
open Go.RowKit Go.Sort
structure CalleesU : Prop where
  ins : ∀ (blk off cap a b:Nat) (d : Array Int) (w : World), Holds encU w blk off d → a ≤ b → b ≤ d.size → d.size < 4611686018427387904 →
    Calls Try.prog 198 #[.slice (some ⟨blk, off, none⟩) d.size cap, .int .i64 a, .int .i64 b] w fun e w' => e = .returned (.tuple #[]) ∧ ∃ n, w' = putRow encU (Sort.ahead w n) blk off (insertionSort ltInt d a b)
  brk : ∀ (blk off cap a b:Nat) (d : Array Int) (w : World), Holds encU w blk off d → blk < w.heap.size → a ≤ b → b ≤ d.size → d.size < 4611686018427387904 →
    Calls Try.prog 200 #[.slice (some ⟨blk, off, none⟩) d.size cap, .int .i64 a, .int .i64 b] w fun e w' => e = .returned (.tuple #[]) ∧ ∃ (n:Nat) (os : OsU), w' = grow (putRow encU (Sort.ahead w n) blk off (breakPatterns d a b)) os.1
  piv : ∀ (blk off cap a b:Nat) (d : Array Int) (w : World), Holds encU w blk off d → blk < w.heap.size → a < b → b ≤ d.size → d.size < 4611686018427387904 →
    Calls Try.prog 201 #[.slice (some ⟨blk, off, none⟩) d.size cap, .int .i64 a, .int .i64 b] w fun e w' => e = .returned (.tuple #[.int .i64 (choosePivot ltInt d a b).1, .int .i64 (hintCode (choosePivot ltInt d a b).2)]) ∧ ∃ (n:Nat) (os : OsU), w' = grow (Sort.ahead w n) os.1
  par : ∀ (blk off cap a b:Nat) (d : Array Int) (w : World), Holds encU w blk off d → a < b → b ≤ d.size → d.size < 4611686018427387904 →
    Calls Try.prog 203 #[.slice (some ⟨blk, off, none⟩) d.size cap, .int .i64 a, .int .i64 b] w fun e w' => e = .returned (.bool (partialInsertionSort ltInt d a b).2) ∧ ∃ n, w' = putRow encU (Sort.ahead w n) blk off (partialInsertionSort ltInt d a b).1
  peq : ∀ (blk off cap a b pivot:Nat) (d : Array Int) (w : World), Holds encU w blk off d → a ≤ pivot → pivot < b → b ≤ d.size → d.size < 4611686018427387904 →
    Calls Try.prog 205 #[.slice (some ⟨blk, off, none⟩) d.size cap, .int .i64 a, .int .i64 b, .int .i64 pivot] w fun e w' => e = .returned (.int .i64 (partitionEqual ltInt d a b pivot).1) ∧ ∃ n, w' = putRow encU (Sort.ahead w n) blk off (partitionEqual ltInt d a b pivot).2
  prt : ∀ (blk off cap a b pivot:Nat) (d : Array Int) (w : World), Holds encU w blk off d → a ≤ pivot → pivot < b → b ≤ d.size → d.size < 4611686018427387904 →
    Calls Try.prog 206 #[.slice (some ⟨blk, off, none⟩) d.size cap, .int .i64 a, .int .i64 b, .int .i64 pivot] w fun e w' => e = .returned (.tuple #[.int .i64 (partition ltInt d a b pivot).1, .bool (partition ltInt d a b pivot).2.1]) ∧ ∃ n, w' = putRow encU (Sort.ahead w n) blk off (partition ltInt d a b pivot).2.2

set_option maxHeartbeats 6400000 in
set_option maxRecDepth 1000000 in
theorem su_pdqsort_int (C : CalleesU) (S : Plain13) : ∀ (N blk off cap a b limit:Nat) (d : Array Int) (w : World), b - a < N → Holds encU w blk off d → blk < w.heap.size → a ≤ b → b ≤ d.size → d.size < 4611686018427387904 → limit < 4611686018427387904 → Below ltInt a b d →
    Calls Try.prog 189 #[.slice (some ⟨blk, off, none⟩) d.size cap, .int .i64 a, .int .i64 b, .int .i64 limit] w fun e w' => e = .returned (.tuple #[]) ∧ AtU encU w blk off (pdq ltInt d a b limit true true) w' := by
  intro N
  induction N with
  | zero => intro _ _ _ _ _ _ _ _ h; exact absurd h (Nat.not_lt_zero _)
  | succ N ih =>
    intro blk off cap a b limit d w hN hH hblk hab hb hsz hlimit hBel0
    go_enter Try.func189, Try.ntmps189
    go_wp2
    go_loopg [1, 2, 3, 8, 9] (b - a) (fun k s1 s2 s3 s8 s9 wr => ∃ (a' b' lim:Nat) (wb wp : Bool) (dk : Array Int), s1 = .int .i64 a' ∧ s2 = .int .i64 b' ∧ s3 = .int .i64 lim ∧ s8 = .bool wb ∧ s9 = .bool wp ∧
      a' ≤ b' ∧ b' ≤ d.size ∧ b' - a' ≤ k ∧ k ≤ b - a ∧ lim ≤ limit ∧ dk.size = d.size ∧ Below ltInt a' b' dk ∧ AtU encU w blk off dk wr ∧ pdq ltInt dk a' b' lim wb wp = pdq ltInt d a b limit true true)
    case atStart => exact ⟨a, b, limit, true, true, d, rfl, rfl, rfl, rfl, rfl, hab, hb, Nat.le_refl _, Nat.le_refl _, Nat.le_refl _, rfl, hBel0, AtU.refl hH, rfl⟩
    case round =>
      obtain ⟨a', b', lim, wb, wp, dk, rfl, rfl, rfl, rfl, rfl, hab', hb', hk, hkN, hlim, hds, hBel, hAt, heq⟩ := hrel
      obtain ⟨hHk, hblk'⟩ := hAt.holds hH hds hblk
      have A : Aside (pdq ltInt dk a' b' lim wb wp = pdq ltInt d a b limit true true) := heq
      clear heq
      by_cases h12 : b' - a' ≤ 12
      · -- 'if length <= maxInsertion'
        have h12z : (b':Int) - (a':Int) ≤ 12 := by omega
        have hc := C.ins blk off cap a' b' dk wr hHk hab' (by omega) (by omega)
        rw [hds] at hc
        go_wp2_with (go_at_call 198; refine hc.mono ?_; rintro e w1 ⟨rfl, hw1⟩)
        (try simp only [Exit.inBlock, Exit.then]); refine bodyPost_ret (results_none rfl _ _ _) rfl ?_
        refine ⟨rfl, ?_⟩
        rw [← A.out, pdq_small h12]
        exact hAt.step hblk (S.ins S.swo dk a' b' hab' (by omega)).1.1 hw1
      · have h12z : ¬ ((b':Int) - (a':Int) ≤ 12) := by omega
        by_cases hl0 : lim = 0
        · -- 'if limit == 0'
          subst hl0
          have hc := su_heapSort_int blk off d.size cap dk hds a' b' wr hHk hab' (by omega) (by omega)
          go_wp2_with (go_at_call 199; refine hc.mono ?_; rintro e w1 ⟨rfl, hw1⟩)
          (try simp only [Exit.inBlock, Exit.then]); refine bodyPost_ret (results_none rfl _ _ _) rfl ?_
          refine ⟨rfl, ?_⟩
          rw [← A.out, pdq_heap h12 rfl]
          exact hAt.step hblk (heapSort_holds S.swo dk a' b' hab' (by omega)).1.1 hw1
        · have hl0z : ¬ ((lim:Int) = 0) := by omega
          -- THE ROUND's VALUES: sizes, ranges, 'Below', stage by stage
          obtain ⟨s1, B1, hc1, s2, B2, hpv, s3, B3⟩ := rd_facts (limit := lim) (wb := wb) (wp := wp) S.swo S.par reverseRange_holds (show a' < b' by omega) (show b' ≤ dk.size by omega) hBel
          -- ████ 'if !wasBalanced { breakPatterns; limit-- }': THE WAYS MEET
          go_upto_if 35 with fail
          go_cut [3] from 19 (fun s3 wc => s3 = .int .i64 (rd ltInt dk a' b' lim wb wp).lim ∧ AtU encU w blk off (rd ltInt dk a' b' lim wb wp).d1 wc)
          case first =>
            cases wb
            · have hc := C.brk blk off cap a' b' dk wr hHk hblk' hab' (by omega) (by omega)
              rw [hds] at hc
              go_wp2_with (go_at_call 200; refine hc.mono ?_; rintro e w1 ⟨rfl, hw1⟩)
              go_meet
              case rel =>
                refine ⟨?_, hAt.stepG hblk s1 hw1⟩
                show Value.int .i64 ((lim:Int) - 1) = Value.int .i64 ((lim - 1:Nat):Int)
                congr 1
                omega
            · go_wp2_with fail
              go_meet
              case rel => exact ⟨rfl, hAt⟩
          case rest =>
            obtain ⟨rfl, hAt1⟩ := hcut
            obtain ⟨hH1, hblk1⟩ := hAt1.holds hH (s1.trans hds) hblk
            have hc17 : Calls Try.prog 201 #[.slice (some ⟨blk, off, none⟩) d.size cap, .int .i64 a', .int .i64 b'] wc fun e w' => e = .returned (.tuple #[.int .i64 (rd ltInt dk a' b' lim wb wp).c.1, .int .i64 (hintCode (rd ltInt dk a' b' lim wb wp).c.2)]) ∧ ∃ (n:Nat) (os : OsU), w' = grow (Sort.ahead wc n) os.1 := by
              have := C.piv blk off cap a' b' (rd ltInt dk a' b' lim wb wp).d1 wc hH1 hblk1 (by omega) (by omega) (by omega)
              rw [s1, hds] at this
              exact this
            go_upto_if 50 with (go_at_call 201; refine hc17.mono ?_; rintro e w2 ⟨rfl, hw2⟩)
            have hAt2 : AtU encU w blk off (rd ltInt dk a' b' lim wb wp).d1 w2 := hAt1.same hH (s1.trans hds) hblk hw2
            obtain ⟨hH2, hblk2⟩ := hAt2.holds hH (s1.trans hds) hblk
            -- ████ 'if hint == decreasingHint { reverseRange; pivot = ..; hint = increasingHint }': THE WAYS MEET
            go_cut [11, 12] from 19 (fun s11 s12 wc => s11 = .int .i64 (rd ltInt dk a' b' lim wb wp).pivot ∧ s12 = .int .i64 (hintCode (rd ltInt dk a' b' lim wb wp).hint) ∧ AtU encU w blk off (rd ltInt dk a' b' lim wb wp).d2 wc)
            case first =>
              by_cases hh : (rd ltInt dk a' b' lim wb wp).c.2 = .decreasing
              · have hcode : hintCode (rd ltInt dk a' b' lim wb wp).c.2 = 2 := by rw [hh]; rfl
                obtain ⟨e2, epv, eht⟩ := rd_dec hh
                have hc18 := su_reverseRange_int blk off cap (rd ltInt dk a' b' lim wb wp).d1 a' b' w2 hH2 hab' (by omega) (by omega)
                rw [s1, hds] at hc18
                go_wp2_with (go_at_call 202; refine hc18.mono ?_; rintro e w3 ⟨rfl, hw3⟩)
                go_meet
                case rel =>
                  refine ⟨?_, by rw [eht]; rfl, by rw [e2]; exact hAt2.step hblk (by rw [← e2, s2, s1]) hw3⟩
                  rw [epv]
                  congr 1
                  omega
              · have hcode : ¬ (hintCode (rd ltInt dk a' b' lim wb wp).c.2 = 2) := fun h => hh (hintCode_two h)
                obtain ⟨e2, epv, eht⟩ := rd_not hh
                go_wp2_with fail
                go_meet
                case rel => exact ⟨by rw [epv], by rw [eht], by rw [e2]; exact hAt2⟩
            case rest =>
              obtain ⟨rfl, rfl, hAt3⟩ := hcut
              obtain ⟨hH3, hblk3⟩ := hAt3.holds hH (s2.trans hds) hblk
              -- ████ THE TEST 'wasBalanced && wasPartitioned && hint == increasingHint', over Booleans that are variables: THE WAYS THROUGH THE REGION MEET
              go_upto_region 15 with fail
              go_cut [12, 68] from 19 (fun s12 s68 wx => s12 = .int .i64 (hintCode (rd ltInt dk a' b' lim wb wp).hint) ∧ s68 = .bool (wb && wp && decide ((rd ltInt dk a' b' lim wb wp).hint = .increasing)) ∧ wx = wc)
              case first =>
                cases wb <;> cases wp <;> cases hh3 : (rd ltInt dk a' b' lim _ _).hint <;>
                  (have hcode3 := congrArg hintCode hh3
                   simp only [hintCode] at hcode3
                   go_wp2_with fail
                   go_meet
                   exact ⟨by simp [hh3, hintCode], by simp [hh3, hintCode], rfl⟩)
              case rest =>
                obtain ⟨rfl, rfl, rfl⟩ := hcut
                -- ████ 'if .. { if partialInsertionSort(..) { return } }': THE WAYS MEET (one returns)
                go_upto_if 68 with fail
                go_cut [] from 19 (fun wx => (rd ltInt dk a' b' lim wb wp).pi.2 = false ∧ AtU encU w blk off (rd ltInt dk a' b' lim wb wp).pi.1 wx)
                case first =>
                  cases h68 : (wb && wp && decide ((rd ltInt dk a' b' lim wb wp).hint = .increasing))
                  · have epi := rd_pi_no h68
                    go_wp2_with fail
                    go_meet
                    case rel => exact ⟨by rw [epi], by rw [epi]; exact hAt3⟩
                  · have epi := rd_pi_yes h68
                    have hc19 := C.par blk off cap a' b' (rd ltInt dk a' b' lim wb wp).d2 wc hH3 (by omega) (by omega) (by omega)
                    rw [s2, hds, ← epi] at hc19
                    go_wp2_with (go_at_call 203; refine hc19.mono ?_; rintro e w4 ⟨rfl, hw4⟩)
                    -- (the walk parts on what the callee says: each way is closed by the script that fits it)
                    all_goals first
                      | (have hp2 : (rd ltInt dk a' b' lim wb wp).pi.2 = false := by rw [epi]; assumption
                         go_meet
                         exact ⟨hp2, hAt3.step hblk (by rw [s3, s2]) hw4⟩)
                      | (have hp2 : (rd ltInt dk a' b' lim wb wp).pi.2 = true := by rw [epi]; assumption
                         (try simp only [Exit.inBlock, Exit.then]); refine bodyPost_ret (results_none rfl _ _ _) rfl ?_
                         refine ⟨rfl, ?_⟩
                         rw [← A.out, pdq_done h12 hl0 hp2]
                         exact hAt3.step hblk (by rw [s3, s2]) hw4)
                case rest =>
                  obtain ⟨hp2, hAt5⟩ := hcut
                  obtain ⟨hH5, hblk5⟩ := hAt5.holds hH (s3.trans hds) hblk
                  -- THE ROW's TWO FAMILIES (the authors' Derived/CellFam.lean)
                  have hcw : ∀ t, t < d.size → wc.cell? ⟨blk, off + t, none⟩ = some (.int .u64 (rd ltInt dk a' b' lim wb wp).pi.1[t]!) := fun t ht => (hH5 t (by omega)).1
                  have hfw : ∀ t, t < d.size → wc.frozen? ⟨blk, off + t, none⟩ = false := fun t ht => (hH5 t (by omega)).2
                  -- ████ THE TEST 'a > 0 && !cmp.Less(data[a-1], data[pivot])': it draws; its guard must be parted on: THE WAYS THROUGH THE REGION MEET
                  go_upto_region 17 with fail
                  go_cut [87] from 19 (fun s87 wx => s87 = .bool (decide (a' > 0) && !ltInt (rd ltInt dk a' b' lim wb wp).pi.1[a' - 1]! (rd ltInt dk a' b' lim wb wp).pi.1[(rd ltInt dk a' b' lim wb wp).pivot]!) ∧ AtU encU w blk off (rd ltInt dk a' b' lim wb wp).pi.1 wx)
                  case first =>
                    rcases Nat.eq_zero_or_pos a' with ha0 | ha0
                    · have ha0z : decide ((a':Int) > 0) = false := decide_eq_false (by omega)
                      go_big_quiet (first | (go_at_call 204; refine Calls.quiet_of_same (su_cmp_Less_int _ _ _)))
                      go_wp2_with fail
                      go_meet
                      case rel => exact ⟨by simp [ha0], hAt5.ahead nq⟩
                    · have ha0z : (a':Int) > 0 := by omega
                      go_big_quiet (first | (go_at_call 204; refine Calls.quiet_of_same (su_cmp_Less_int _ _ _)))
                      go_wp2_with fail
                      go_meet
                      case rel => exact ⟨by simp [ha0], hAt5.ahead nq⟩
                  case rest =>
                    obtain ⟨rfl, hAt6⟩ := hcut
                    obtain ⟨hH6, hblk6⟩ := hAt6.holds hH (s3.trans hds) hblk
                    clear hcw hfw
                    cases h87 : (decide (a' > 0) && !ltInt (rd ltInt dk a' b' lim wb wp).pi.1[a' - 1]! (rd ltInt dk a' b' lim wb wp).pi.1[(rd ltInt dk a' b' lim wb wp).pivot]!)
                    · -- ████ 'mid, alreadyPartitioned := partitionOrdered(..)'; THE SMALLER SIDE BY A CALL OF ITSELF, the other by the next round
                      -- (✋ WHAT THE PARTITION GIVES, AS VARIABLES WITH ONE EQUATION: handed 'rfl' for it, the unifier UNFOLDED 'partition' to find the triple's parts, and the ranges came back over 'partLoop ..': nothing met them any more)
                      obtain ⟨mid, ap, d4, hx⟩ : ∃ mid ap d4, partition ltInt (rd ltInt dk a' b' lim wb wp).pi.1 a' b' (rd ltInt dk a' b' lim wb wp).pivot = (mid, ap, d4) := ⟨(partition ltInt (rd ltInt dk a' b' lim wb wp).pi.1 a' b' (rd ltInt dk a' b' lim wb wp).pivot).1, (partition ltInt (rd ltInt dk a' b' lim wb wp).pi.1 a' b' (rd ltInt dk a' b' lim wb wp).pivot).2.1, (partition ltInt (rd ltInt dk a' b' lim wb wp).pi.1 a' b' (rd ltInt dk a' b' lim wb wp).pivot).2.2, rfl⟩
                      obtain ⟨r1, r2, r3, r4, r5, r6, r7⟩ := round_part S.swo S.prt hpv.1 hpv.2 (show b' ≤ (rd ltInt dk a' b' lim wb wp).pi.1.size by omega) B3 hx
                      have hc22 := C.prt blk off cap a' b' (rd ltInt dk a' b' lim wb wp).pivot (rd ltInt dk a' b' lim wb wp).pi.1 wc hH6 hpv.1 hpv.2 (by omega) (by omega)
                      rw [s3, hds, hx] at hc22
                      have X : Aside (partition ltInt (rd ltInt dk a' b' lim wb wp).pi.1 a' b' (rd ltInt dk a' b' lim wb wp).pivot = (mid, ap, d4)) := hx
                      clear hx
                      go_upto_if 113 with (go_at_call 206; refine hc22.mono ?_; rintro e w7 ⟨rfl, hw7⟩)
                      have hx := X.out
                      have hAt7 : AtU encU w blk off d4 w7 := hAt6.step hblk r3 hw7
                      obtain ⟨hH7, hblk7⟩ := hAt7.holds hH (r3.trans (s3.trans hds)) hblk
                      by_cases h4 : mid - a' < b' - mid
                      · have h4z : (mid:Int) - (a':Int) < (b':Int) - (mid:Int) := by omega
                        have hih := ih blk off cap a' mid (rd ltInt dk a' b' lim wb wp).lim d4 w7 (by omega) hH7 hblk7 (by omega) (by omega) (by omega) (Nat.lt_of_le_of_lt (Nat.le_trans rd_lim_le hlim) hlimit) r4
                        rw [r3, s3, hds] at hih
                        obtain ⟨pL, sL⟩ := S.pdq S.swo d4 a' mid (rd ltInt dk a' b' lim wb wp).lim true true (by omega) (by omega) r4
                        go_wp2_with (go_at_call 189; refine hih.mono ?_; rintro e w8 ⟨rfl, hw8⟩)
                        go_roundg (b' - (mid + 1))
                        case measure => omega
                        case rel =>
                          refine ⟨mid + 1, b', (rd ltInt dk a' b' lim wb wp).lim, decide (mid - a' ≥ (b' - a') / 8), ap, pdq ltInt d4 a' mid (rd ltInt dk a' b' lim wb wp).lim true true, by simp, rfl, rfl, ?_, rfl, by omega, by omega, Nat.le_refl _, by omega, Nat.le_trans rd_lim_le hlim, by rw [pL.1, r3, s3, hds], (r6 _ pL sL).1, hAt7.stepG hblk pL.1 hw8, ?_⟩
                          · exact congrArg Value.bool (eighth (by omega) (by omega))
                          · rw [← A.out, pdq_left h12 hl0 hp2 h87 (by rw [hx]; exact ⟨r1, r2⟩) (by rw [hx]; exact h4), hx]
                      · have h4z : ¬ ((mid:Int) - (a':Int) < (b':Int) - (mid:Int)) := by omega
                        have hih := ih blk off cap (mid + 1) b' (rd ltInt dk a' b' lim wb wp).lim d4 w7 (by omega) hH7 hblk7 (by omega) (by omega) (by omega) (Nat.lt_of_le_of_lt (Nat.le_trans rd_lim_le hlim) hlimit) r5
                        rw [r3, s3, hds] at hih
                        obtain ⟨pL, sL⟩ := S.pdq S.swo d4 (mid + 1) b' (rd ltInt dk a' b' lim wb wp).lim true true (by omega) (by omega) r5
                        go_wp2_with (go_at_call 189; refine hih.mono ?_; rintro e w8 ⟨rfl, hw8⟩)
                        go_roundg (mid - a')
                        case measure => omega
                        case rel =>
                          refine ⟨a', mid, (rd ltInt dk a' b' lim wb wp).lim, decide (b' - mid ≥ (b' - a') / 8), ap, pdq ltInt d4 (mid + 1) b' (rd ltInt dk a' b' lim wb wp).lim true true, rfl, rfl, rfl, ?_, rfl, by omega, by omega, Nat.le_refl _, by omega, Nat.le_trans rd_lim_le hlim, by rw [pL.1, r3, s3, hds], (r7 _ pL sL).1, hAt7.stepG hblk pL.1 hw8, ?_⟩
                          · exact congrArg Value.bool (eighth (by omega) (by omega))
                          · rw [← A.out, pdq_right h12 hl0 hp2 h87 (by rw [hx]; exact ⟨r1, r2⟩) (by rw [hx]; exact h4), hx]
                    · -- ████ 'mid := partitionEqualOrdered(..); a = mid; continue'
                      have h87' := h87
                      simp only [Bool.and_eq_true, decide_eq_true_eq, Bool.not_eq_true'] at h87'
                      obtain ⟨mid, d4, hx⟩ : ∃ mid d4, partitionEqual ltInt (rd ltInt dk a' b' lim wb wp).pi.1 a' b' (rd ltInt dk a' b' lim wb wp).pivot = (mid, d4) := ⟨(partitionEqual ltInt (rd ltInt dk a' b' lim wb wp).pi.1 a' b' (rd ltInt dk a' b' lim wb wp).pivot).1, (partitionEqual ltInt (rd ltInt dk a' b' lim wb wp).pi.1 a' b' (rd ltInt dk a' b' lim wb wp).pivot).2, rfl⟩
                      obtain ⟨r1, r2, r3, r4, _⟩ := round_eq S.swo S.peq h87'.1 hpv.1 hpv.2 (show b' ≤ (rd ltInt dk a' b' lim wb wp).pi.1.size by omega) B3 h87'.2 hx
                      have hc21 := C.peq blk off cap a' b' (rd ltInt dk a' b' lim wb wp).pivot (rd ltInt dk a' b' lim wb wp).pi.1 wc hH6 hpv.1 hpv.2 (by omega) (by omega)
                      rw [s3, hds, hx] at hc21
                      have X : Aside (partitionEqual ltInt (rd ltInt dk a' b' lim wb wp).pi.1 a' b' (rd ltInt dk a' b' lim wb wp).pivot = (mid, d4)) := hx
                      clear hx
                      go_wp2_with (go_at_call 205; refine hc21.mono ?_; rintro e w7 ⟨rfl, hw7⟩)
                      go_roundg (b' - mid)
                      case measure => omega
                      case rel =>
                        have hx := X.out
                        exact ⟨mid, b', (rd ltInt dk a' b' lim wb wp).lim, wb, wp, d4, rfl, rfl, rfl, rfl, rfl, r2, hb', Nat.le_refl _, by omega, Nat.le_trans rd_lim_le hlim, by rw [r3, s3, hds], r4, hAt6.step hblk r3 hw7, by rw [← A.out, pdq_eq h12 hl0 hp2 h87 (by rw [hx]; exact ⟨r1, r2⟩), hx]⟩
end Go.Proofs

namespace Go.Proofs
open Go.RowKit Go.Sort
set_option maxRecDepth 1000000 in
theorem su_insertionSort_int (blk off cap a b:Nat) (d : Array Int) (w : World) (hH : Holds (Value.int .u64) w blk off d) (hab : a ≤ b) (hb : b ≤ d.size) (hsz : d.size < 4611686018427387904) :
    Calls Try.prog 198 #[.slice (some ⟨blk, off, none⟩) d.size cap, .int .i64 a, .int .i64 b] w fun e w' =>
      e = .returned (.tuple #[]) ∧ ∃ n, w' = putRow (Value.int .u64) (Sort.ahead w n) blk off (Sort.insertionSort ltInt d a b) := by
  go_enter Try.func198, Try.ntmps198
  go_wp2
  go_loopw [6] (fun vi wr => ∃ (i n:Nat) (dk : Array Int), vi = .int .i64 i ∧ a < i ∧ i ≤ b + 1 ∧ dk.size = d.size ∧ wr = putRow (Value.int .u64) (Sort.ahead w n) blk off dk ∧
      insOuter ltInt a b i dk = insOuter ltInt a b (a + 1) d) (fun vi _ => b + 1 - (intOf vi).toNat)
  case atStart => exact ⟨a + 1, 0, d, by go_num, by omega, by omega, rfl, (putRow_self _ _ _ _ _ hH).symm, rfl⟩
  case round =>
    obtain ⟨i, n, dk, rfl, hai, hib, hsk, hwr, hO⟩ := hrel
    have HO : Hid (insOuter ltInt a b i dk = insOuter ltInt a b (a + 1) d) := hO
    clear hO
    go_wp2
    · -- i < b: the inner loop
      go_loopw [7] (fun vj wr2 => ∃ (j m:Nat) (dj : Array Int), vj = .int .i64 j ∧ a ≤ j ∧ j ≤ i ∧ dj.size = d.size ∧ wr2 = putRow (Value.int .u64) (Sort.ahead w m) blk off dj ∧
          insInner ltInt a j dj = insInner ltInt a i dk) (fun vj _ => (intOf vj).toNat)
      case atStart => exact ⟨i, n, dk, rfl, by omega, Nat.le_refl _, hsk, rfl, rfl⟩
      case round =>
        obtain ⟨j, m, dj, rfl, haj, hji, hsj, hw2, hI⟩ := hrel
        have hlt : i < b := by assumption
        -- the row's contents under a name of their own (the authors' find: with 'j < d.size' at hand the walk's simp turns 'dj[j]!' into 'dj[j]'); its two families: Derived/CellFam.lean serves every load and store from them
        obtain ⟨G, hG⟩ : ∃ G : Nat → Int, ∀ t, G t = dj[t]! := ⟨fun t => dj[t]!, fun _ => rfl⟩
        have hcw : ∀ t, t < d.size → wr.cell? ⟨blk, off + t, none⟩ = some (.int .u64 (G t)) := fun t ht => by
          rw [hw2, hG]; exact cell?_putRow _ _ _ _ d dj (holds_ahead _ _ _ _ _ _ hH) hsj t (by omega)
        have hfw : ∀ t, t < d.size → wr.frozen? ⟨blk, off + t, none⟩ = false := fun t ht => by
          rw [hw2, frozen?_putRow]; exact ((holds_ahead _ _ m _ _ _ hH) t ht).2
        have HW : Hid (wr = putRow (Value.int .u64) (Sort.ahead w m) blk off dj) := hw2
        have HG : Hid (∀ t, G t = dj[t]!) := hG
        have HI : Hid (insInner ltInt a j dj = insInner ltInt a i dk) := hI
        clear hw2 hG hI hH
        -- out of the inner loop: dj is what the inner loop makes of dk: the outer round's end
        have out : (j ≤ a ∨ ltInt dj[j]! dj[j - 1]! = false) → ∀ q, ∃ i' n' dk', Value.int .i64 ((i:Int) + 1) = .int .i64 (i':Nat) ∧ a < i' ∧ i' ≤ b + 1 ∧ dk'.size = d.size ∧
            wr.drewN q = putRow (Value.int .u64) (Sort.ahead w n') blk off dk' ∧ insOuter ltInt a b i' dk' = insOuter ltInt a b (a + 1) d := fun hs q =>
          ⟨i + 1, m + q, dj, by go_num, by omega, by omega, hsj, by rw [HW.out]; exact putRow_drewN _ _ _ _ _ _ _,
            by rw [← HO.out, insOuter_go _ _ _ _ _ hlt, ← HI.out, insInner_stop _ _ _ _ hs]⟩
        have OUT : Hid _ := out
        clear out
        go_wp2
        by_cases hja : a < j
        · go_quiet (first | (go_at_call 204; refine Calls.quiet_of_same (su_cmp_Less_int _ _ _)))
          go_wp2
          · -- Less: the swap, j--
            have hl : ltInt (G j) (G (j - 1)) = true := by assumption
            go_region
            all_goals go_wp2
            go_roundw
            case rel =>
              refine ⟨j - 1, m + (nq + 1), swp dj j (j - 1), by congr 1; omega, by omega, by omega, by rw [size_swp]; exact hsj, ?_, ?_⟩
              · rw [HW.out, HG.out, HG.out]
                exact swap_worldA _ w m (nq + 1) blk off dj j (j - 1) (by omega) (by omega)
              · rw [← HI.out, insInner_go ltInt a j dj hja (by rw [← HG.out, ← HG.out]; exact hl)]
            case measure => simp [intOf]; omega
          · -- not Less
            have hl : ltInt (G j) (G (j - 1)) = false := by assumption
            go_roundw
            case rel => exact OUT.out (Or.inr (by rw [← HG.out, ← HG.out]; exact hl)) nq
            case measure => simp [intOf]; omega
        · go_quiet (first | (go_at_call 204; refine Calls.quiet_of_same (su_cmp_Less_int _ _ _)))
          go_wp2
          go_roundw
          case rel => exact OUT.out (Or.inl (by omega)) nq
          case measure => simp [intOf]; omega
    · -- the outer loop is at its end
      have hge : ¬ i < b := by assumption
      go_end0
      exact ⟨rfl, n, by unfold Sort.insertionSort; rw [← HO.out, insOuter_stop _ _ _ _ _ hge]⟩
end Go.Proofs

namespace Go.Proofs
open Go.RowKit Go.Sort
set_option maxHeartbeats 1600000 in
set_option maxRecDepth 1000000 in
theorem su_partialInsertionSort_int (blk off cap a b:Nat) (d : Array Int) (w : World) (hH : Holds (Value.int .u64) w blk off d) (hab : a < b) (hb : b ≤ d.size) (hsz : d.size < 4611686018427387904) :
    Calls Try.prog 203 #[.slice (some ⟨blk, off, none⟩) d.size cap, .int .i64 a, .int .i64 b] w fun e w' =>
      e = .returned (.bool (Sort.partialInsertionSort ltInt d a b).2) ∧ ∃ n, w' = putRow (Value.int .u64) (Sort.ahead w n) blk off (Sort.partialInsertionSort ltInt d a b).1 := by
  have HH : Hid (Holds (Value.int .u64) w blk off d) := hH
  have HST : Hid (w = putRow (Value.int .u64) (Sort.ahead w 0) blk off d) := (putRow_self _ _ _ _ _ hH).symm
  clear hH
  go_enter Try.func203, Try.ntmps203
  go_wp2
  go_loopw [7, 8] (fun vi vs wr => ∃ (i s n:Nat) (dk : Array Int), vi = .int .i64 i ∧ vs = .int .i64 s ∧ s ≤ 5 ∧ a < i ∧ i ≤ b ∧ dk.size = d.size ∧ wr = putRow (Value.int .u64) (Sort.ahead w n) blk off dk ∧
      partialIns ltInt a b (5 - s) i dk = partialIns ltInt a b 5 (a + 1) d) (fun _ vs _ => 5 - (intOf vs).toNat)
  case atStart => exact ⟨a + 1, 0, 0, d, by go_num, rfl, by omega, by omega, by omega, rfl, HST.out, rfl⟩
  case round =>
    obtain ⟨i, s, n, dk, rfl, rfl, hs5, hai, hib, hsk, hwr, hO⟩ := hrel
    have HO : Hid (partialIns ltInt a b (5 - s) i dk = partialIns ltInt a b 5 (a + 1) d) := hO
    clear hO
    go_wp2
    · -- s < 5: the scan
      have hs : s < 5 := by omega
      go_loopw [7] (fun vi wr2 => ∃ (k m:Nat), vi = .int .i64 k ∧ i ≤ k ∧ k ≤ b ∧ wr2 = putRow (Value.int .u64) (Sort.ahead w m) blk off dk ∧ scanSorted ltInt dk b k = scanSorted ltInt dk b i) (fun vi _ => b - (intOf vi).toNat)
      case atStart => exact ⟨i, n, rfl, Nat.le_refl _, hib, rfl, rfl⟩
      case round =>
        obtain ⟨k, m, rfl, hik, hkb, hw2, hS⟩ := hrel
        obtain ⟨G, hG⟩ : ∃ G : Nat → Int, ∀ t, G t = dk[t]! := ⟨fun t => dk[t]!, fun _ => rfl⟩
        have hcw : ∀ t, t < d.size → wr.cell? ⟨blk, off + t, none⟩ = some (.int .u64 (G t)) := fun t ht => by
          rw [hw2, hG]; exact cell?_putRow _ _ _ _ d dk (holds_ahead _ _ _ _ _ _ HH.out) hsk t (by omega)
        have hfw : ∀ t, t < d.size → wr.frozen? ⟨blk, off + t, none⟩ = false := fun t ht => by
          rw [hw2, frozen?_putRow]; exact ((holds_ahead _ _ m _ _ _ HH.out) t ht).2
        have HW : Hid (wr = putRow (Value.int .u64) (Sort.ahead w m) blk off dk) := hw2
        have HG : Hid (∀ t, G t = dk[t]!) := hG
        have HS : Hid (scanSorted ltInt dk b k = scanSorted ltInt dk b i) := hS
        clear hw2 hG hS
        go_wp2
        by_cases hkb' : k < b
        · go_quiet (first | (go_at_call 204; refine Calls.quiet_of_same (su_cmp_Less_int _ _ _)))
          go_wp2
          all_goals first
            | (at_end
               have hl : ltInt (G k) (G (k - 1)) = false := by
                 have h : (!ltInt (G k) (G (k - 1))) = true := by assumption
                 simpa using h
               go_roundw
               case rel => exact ⟨k + 1, m + nq, by go_num, by omega, by omega, by rw [HW.out]; exact putRow_drewN _ _ _ _ _ _ _, by rw [← HS.out, scanSorted_go ltInt dk b k hkb' (by rw [← HG.out, ← HG.out]; exact hl)]⟩
               case measure => simp [intOf]; omega)
            | (have hl : ltInt (G k) (G (k - 1)) = true := by
                 have h : (!ltInt (G k) (G (k - 1))) = false := by assumption
                 simpa using h
               have HK : Hid (scanSorted ltInt dk b i = k) := by
                 show scanSorted ltInt dk b i = k
                 rw [← HS.out, scanSorted_stop ltInt dk b k (Or.inr (by rw [← HG.out, ← HG.out]; exact hl))]
               first
                 | (at_ret
                    have hv : Sort.partialInsertionSort ltInt d a b = (dk, false) := by
                      unfold Sort.partialInsertionSort
                      rw [← HO.out, pi_short ltInt a b s i dk hs (by rw [HK.out]; omega) (by omega)]
                    rw [hv]
                    go_ret
                    exact ⟨rfl, m + nq, by rw [HW.out]; exact putRow_drewN _ _ _ _ _ _ _⟩)
                 | (at_region 11
                    have h50 : ¬ b - a < 50 := by omega
                    go_region
                    have hsw : ((wr.drewN (nq + 1)).setCell ⟨blk, off + k, none⟩ (.int .u64 (G (k - 1)))).setCell ⟨blk, off + (k - 1), none⟩ (.int .u64 (G k)) = putRow (Value.int .u64) (Sort.ahead w (m + (nq + 1))) blk off (swp dk k (k - 1)) := by
                      rw [HW.out, HG.out, HG.out]
                      exact swap_worldA _ w m (nq + 1) blk off dk k (k - 1) (by omega) (by omega)
                    have hs1 : (swp dk k (k - 1)).size = d.size := by rw [size_swp]; exact hsk
                    go_wp2
                    all_goals first
                      | (at_loop
                         -- i - a >= 2: the smaller one goes down
                         have hka : k - a ≥ 2 := by omega
                         go_loopw [9] (fun vj wr2 => ∃ (j m2:Nat) (dj : Array Int), vj = .int .i64 j ∧ j ≤ k - 1 ∧ dj.size = d.size ∧ wr2 = putRow (Value.int .u64) (Sort.ahead w m2) blk off dj ∧
                             shiftDown ltInt j dj = shiftDown ltInt (k - 1) (swp dk k (k - 1))) (fun vj _ => (intOf vj).toNat)
                         case atStart => exact ⟨k - 1, _, (swp dk k (k - 1)), by congr 1; omega, Nat.le_refl _, hs1, rfl, rfl⟩
                         case round =>
                           obtain ⟨j, m2, dj, rfl, hjk, hsj, hw2, hDn⟩ := hrel
                           obtain ⟨G, hG⟩ : ∃ G : Nat → Int, ∀ t, G t = dj[t]! := ⟨fun t => dj[t]!, fun _ => rfl⟩
                           have hcw : ∀ t, t < d.size → wr.cell? ⟨blk, off + t, none⟩ = some (.int .u64 (G t)) := fun t ht => by
                             rw [hw2, hG]; exact cell?_putRow _ _ _ _ d dj (holds_ahead _ _ _ _ _ _ HH.out) hsj t (by omega)
                           have hfw : ∀ t, t < d.size → wr.frozen? ⟨blk, off + t, none⟩ = false := fun t ht => by
                             rw [hw2, frozen?_putRow]; exact ((holds_ahead _ _ m2 _ _ _ HH.out) t ht).2
                           have HW : Hid (wr = putRow (Value.int .u64) (Sort.ahead w m2) blk off dj) := hw2
                           have HG : Hid (∀ t, G t = dj[t]!) := hG
                           have HDn : Hid (shiftDown ltInt j dj = shiftDown ltInt (k - 1) (swp dk k (k - 1))) := hDn
                           clear hw2 hG hDn hsw
                           go_wp2
                           all_goals first
                             | (at_region 16
                                go_quiet (first | (go_at_call 204; refine Calls.quiet_of_same (su_cmp_Less_int _ _ _)))
                                go_wp2
                                all_goals first
                                  | (at_region 17
                                     have hl : ltInt (G j) (G (j - 1)) = true := by
                                       have h : (!ltInt (G j) (G (j - 1))) = false := by assumption
                                       simpa using h
                                     go_region
                                     all_goals go_wp2
                                     go_roundw
                                     case rel =>
                                       refine ⟨j - 1, m2 + (nq + 1), swp dj j (j - 1), by congr 1; omega, by omega, by rw [size_swp]; exact hsj, ?_, ?_⟩
                                       · rw [HW.out, HG.out, HG.out]
                                         exact swap_worldA _ w m2 (nq + 1) blk off dj j (j - 1) (by omega) (by omega)
                                       · rw [← HDn.out, shiftDown_go ltInt j dj (by omega) (by rw [← HG.out, ← HG.out]; exact hl)]
                                     case measure => simp [intOf]; omega)
                                  | (-- break
                                     have hl : ltInt (G j) (G (j - 1)) = false := by
                                       have h : (!ltInt (G j) (G (j - 1))) = true := by assumption
                                       simpa using h
                                     have HD : Hid (fixDown ltInt a k (swp dk k (k - 1)) = dj) := by
                                       show fixDown ltInt a k (swp dk k (k - 1)) = dj
                                       unfold fixDown; rw [if_pos hka, ← HDn.out, shiftDown_stop ltInt j dj (Or.inr (by rw [← HG.out, ← HG.out]; exact hl))]
                                     first
                                       | (at_end
                                          go_roundw
                                          case rel =>
                                            refine ⟨k, s + 1, _, dj, rfl, by go_num, by omega, by omega, by omega, hsj, (by first | rfl | exact HW.out | (rw [HW.out]; exact putRow_drewN _ _ _ _ _ _ _)), ?_⟩
                                            rw [← HO.out, pi_go ltInt a b s i k dk hs HK.out (by omega) (by omega), HD.out, show fixUp ltInt b k dj = dj from by unfold fixUp; rw [if_neg (by omega)]]
                                          case measure => simp [intOf]; omega)
                                       | (at_loop
                                          go_loopw [10] (fun vj wr2 => ∃ (j m3:Nat) (du : Array Int), vj = .int .i64 j ∧ k + 1 ≤ j ∧ j ≤ b ∧ du.size = d.size ∧ wr2 = putRow (Value.int .u64) (Sort.ahead w m3) blk off du ∧
                                              shiftUp ltInt b j du = shiftUp ltInt b (k + 1) dj) (fun vj _ => b - (intOf vj).toNat)
                                          case atStart => exact ⟨k + 1, _, dj, by go_num, Nat.le_refl _, by omega, hsj, (by first | rfl | exact HW.out | (rw [HW.out]; exact putRow_drewN _ _ _ _ _ _ _)), rfl⟩
                                          case round =>
                                            obtain ⟨j, m3, du, rfl, hkj, hjb, hsu, hw3, hU⟩ := hrel
                                            obtain ⟨G, hG⟩ : ∃ G : Nat → Int, ∀ t, G t = du[t]! := ⟨fun t => du[t]!, fun _ => rfl⟩
                                            have hcw : ∀ t, t < d.size → wr.cell? ⟨blk, off + t, none⟩ = some (.int .u64 (G t)) := fun t ht => by
                                              rw [hw3, hG]; exact cell?_putRow _ _ _ _ d du (holds_ahead _ _ _ _ _ _ HH.out) hsu t (by omega)
                                            have hfw : ∀ t, t < d.size → wr.frozen? ⟨blk, off + t, none⟩ = false := fun t ht => by
                                              rw [hw3, frozen?_putRow]; exact ((holds_ahead _ _ m3 _ _ _ HH.out) t ht).2
                                            have HW : Hid (wr = putRow (Value.int .u64) (Sort.ahead w m3) blk off du) := hw3
                                            have HG : Hid (∀ t, G t = du[t]!) := hG
                                            have HU : Hid (shiftUp ltInt b j du = shiftUp ltInt b (k + 1) dj) := hU
                                            clear hw3 hG hU
                                            go_wp2
                                            all_goals first
                                              | (at_region 22
                                                 go_quiet (first | (go_at_call 204; refine Calls.quiet_of_same (su_cmp_Less_int _ _ _)))
                                                 go_wp2
                                                 all_goals first
                                                   | (at_region 23
                                                      have hl : ltInt (G j) (G (j - 1)) = true := by
                                                        have h : (!ltInt (G j) (G (j - 1))) = false := by assumption
                                                        simpa using h
                                                      go_region
                                                      all_goals go_wp2
                                                      go_roundw
                                                      case rel =>
                                                        refine ⟨j + 1, m3 + (nq + 1), swp du j (j - 1), by go_num, by omega, by omega, by rw [size_swp]; exact hsu, ?_, ?_⟩
                                                        · rw [HW.out, HG.out, HG.out]
                                                          exact swap_worldA _ w m3 (nq + 1) blk off du j (j - 1) (by omega) (by omega)
                                                        · rw [← HU.out, shiftUp_go ltInt b j du (by omega) (by rw [← HG.out, ← HG.out]; exact hl)]
                                                      case measure => simp [intOf]; omega)
                                                   | (at_end
                                                      have hl : ltInt (G j) (G (j - 1)) = false := by
                                                        have h : (!ltInt (G j) (G (j - 1))) = true := by assumption
                                                        simpa using h
                                                      go_roundw
                                                      case rel =>
                                                        refine ⟨k, s + 1, _, du, rfl, by go_num, by omega, by omega, by omega, hsu, (by first | rfl | exact HW.out | (rw [HW.out]; exact putRow_drewN _ _ _ _ _ _ _)), ?_⟩
                                                        rw [← HO.out, pi_go ltInt a b s i k dk hs HK.out (by omega) (by omega), HD.out, show fixUp ltInt b k dj = du from by unfold fixUp; rw [if_pos (by omega), ← HU.out, shiftUp_stop ltInt b j du (Or.inr (by rw [← HG.out, ← HG.out]; exact hl))]]
                                                      case measure => simp [intOf]; omega))
                                              | (at_end
                                                 go_roundw
                                                 case rel =>
                                                   refine ⟨k, s + 1, _, du, rfl, by go_num, by omega, by omega, by omega, hsu, (by first | rfl | exact HW.out | (rw [HW.out]; exact putRow_drewN _ _ _ _ _ _ _)), ?_⟩
                                                   rw [← HO.out, pi_go ltInt a b s i k dk hs HK.out (by omega) (by omega), HD.out, show fixUp ltInt b k dj = du from by unfold fixUp; rw [if_pos (by omega), ← HU.out, shiftUp_stop ltInt b j du (Or.inl (by omega))]]
                                                 case measure => simp [intOf]; omega))))
                             | (-- j < 1
                                have HD : Hid (fixDown ltInt a k (swp dk k (k - 1)) = dj) := by
                                  show fixDown ltInt a k (swp dk k (k - 1)) = dj
                                  unfold fixDown; rw [if_pos hka, ← HDn.out, shiftDown_stop ltInt j dj (Or.inl (by omega))]
                                first
                                  | (at_end
                                     go_roundw
                                     case rel =>
                                       refine ⟨k, s + 1, _, dj, rfl, by go_num, by omega, by omega, by omega, hsj, (by first | rfl | exact HW.out | (rw [HW.out]; exact putRow_drewN _ _ _ _ _ _ _)), ?_⟩
                                       rw [← HO.out, pi_go ltInt a b s i k dk hs HK.out (by omega) (by omega), HD.out, show fixUp ltInt b k dj = dj from by unfold fixUp; rw [if_neg (by omega)]]
                                     case measure => simp [intOf]; omega)
                                  | (at_loop
                                     go_loopw [10] (fun vj wr2 => ∃ (j m3:Nat) (du : Array Int), vj = .int .i64 j ∧ k + 1 ≤ j ∧ j ≤ b ∧ du.size = d.size ∧ wr2 = putRow (Value.int .u64) (Sort.ahead w m3) blk off du ∧
                                         shiftUp ltInt b j du = shiftUp ltInt b (k + 1) dj) (fun vj _ => b - (intOf vj).toNat)
                                     case atStart => exact ⟨k + 1, _, dj, by go_num, Nat.le_refl _, by omega, hsj, (by first | rfl | exact HW.out | (rw [HW.out]; exact putRow_drewN _ _ _ _ _ _ _)), rfl⟩
                                     case round =>
                                       obtain ⟨j, m3, du, rfl, hkj, hjb, hsu, hw3, hU⟩ := hrel
                                       obtain ⟨G, hG⟩ : ∃ G : Nat → Int, ∀ t, G t = du[t]! := ⟨fun t => du[t]!, fun _ => rfl⟩
                                       have hcw : ∀ t, t < d.size → wr.cell? ⟨blk, off + t, none⟩ = some (.int .u64 (G t)) := fun t ht => by
                                         rw [hw3, hG]; exact cell?_putRow _ _ _ _ d du (holds_ahead _ _ _ _ _ _ HH.out) hsu t (by omega)
                                       have hfw : ∀ t, t < d.size → wr.frozen? ⟨blk, off + t, none⟩ = false := fun t ht => by
                                         rw [hw3, frozen?_putRow]; exact ((holds_ahead _ _ m3 _ _ _ HH.out) t ht).2
                                       have HW : Hid (wr = putRow (Value.int .u64) (Sort.ahead w m3) blk off du) := hw3
                                       have HG : Hid (∀ t, G t = du[t]!) := hG
                                       have HU : Hid (shiftUp ltInt b j du = shiftUp ltInt b (k + 1) dj) := hU
                                       clear hw3 hG hU
                                       go_wp2
                                       all_goals first
                                         | (at_region 22
                                            go_quiet (first | (go_at_call 204; refine Calls.quiet_of_same (su_cmp_Less_int _ _ _)))
                                            go_wp2
                                            all_goals first
                                              | (at_region 23
                                                 have hl : ltInt (G j) (G (j - 1)) = true := by
                                                   have h : (!ltInt (G j) (G (j - 1))) = false := by assumption
                                                   simpa using h
                                                 go_region
                                                 all_goals go_wp2
                                                 go_roundw
                                                 case rel =>
                                                   refine ⟨j + 1, m3 + (nq + 1), swp du j (j - 1), by go_num, by omega, by omega, by rw [size_swp]; exact hsu, ?_, ?_⟩
                                                   · rw [HW.out, HG.out, HG.out]
                                                     exact swap_worldA _ w m3 (nq + 1) blk off du j (j - 1) (by omega) (by omega)
                                                   · rw [← HU.out, shiftUp_go ltInt b j du (by omega) (by rw [← HG.out, ← HG.out]; exact hl)]
                                                 case measure => simp [intOf]; omega)
                                              | (at_end
                                                 have hl : ltInt (G j) (G (j - 1)) = false := by
                                                   have h : (!ltInt (G j) (G (j - 1))) = true := by assumption
                                                   simpa using h
                                                 go_roundw
                                                 case rel =>
                                                   refine ⟨k, s + 1, _, du, rfl, by go_num, by omega, by omega, by omega, hsu, (by first | rfl | exact HW.out | (rw [HW.out]; exact putRow_drewN _ _ _ _ _ _ _)), ?_⟩
                                                   rw [← HO.out, pi_go ltInt a b s i k dk hs HK.out (by omega) (by omega), HD.out, show fixUp ltInt b k dj = du from by unfold fixUp; rw [if_pos (by omega), ← HU.out, shiftUp_stop ltInt b j du (Or.inr (by rw [← HG.out, ← HG.out]; exact hl))]]
                                                 case measure => simp [intOf]; omega))
                                         | (at_end
                                            go_roundw
                                            case rel =>
                                              refine ⟨k, s + 1, _, du, rfl, by go_num, by omega, by omega, by omega, hsu, (by first | rfl | exact HW.out | (rw [HW.out]; exact putRow_drewN _ _ _ _ _ _ _)), ?_⟩
                                              rw [← HO.out, pi_go ltInt a b s i k dk hs HK.out (by omega) (by omega), HD.out, show fixUp ltInt b k dj = du from by unfold fixUp; rw [if_pos (by omega), ← HU.out, shiftUp_stop ltInt b j du (Or.inl (by omega))]]
                                            case measure => simp [intOf]; omega))))
                      | (-- i - a < 2
                         have HD : Hid (fixDown ltInt a k (swp dk k (k - 1)) = (swp dk k (k - 1))) := by
                           show fixDown ltInt a k (swp dk k (k - 1)) = (swp dk k (k - 1))
                           unfold fixDown; rw [if_neg (by omega)]
                         first
                           | (at_end
                              go_roundw
                              case rel =>
                                refine ⟨k, s + 1, _, (swp dk k (k - 1)), rfl, by go_num, by omega, by omega, by omega, hs1, (by first | rfl | exact HW.out | (rw [HW.out]; exact putRow_drewN _ _ _ _ _ _ _)), ?_⟩
                                rw [← HO.out, pi_go ltInt a b s i k dk hs HK.out (by omega) (by omega), HD.out, show fixUp ltInt b k (swp dk k (k - 1)) = (swp dk k (k - 1)) from by unfold fixUp; rw [if_neg (by omega)]]
                              case measure => simp [intOf]; omega)
                           | (at_loop
                              go_loopw [10] (fun vj wr2 => ∃ (j m3:Nat) (du : Array Int), vj = .int .i64 j ∧ k + 1 ≤ j ∧ j ≤ b ∧ du.size = d.size ∧ wr2 = putRow (Value.int .u64) (Sort.ahead w m3) blk off du ∧
                                  shiftUp ltInt b j du = shiftUp ltInt b (k + 1) (swp dk k (k - 1))) (fun vj _ => b - (intOf vj).toNat)
                              case atStart => exact ⟨k + 1, _, (swp dk k (k - 1)), by go_num, Nat.le_refl _, by omega, hs1, (by first | rfl | exact HW.out | (rw [HW.out]; exact putRow_drewN _ _ _ _ _ _ _)), rfl⟩
                              case round =>
                                obtain ⟨j, m3, du, rfl, hkj, hjb, hsu, hw3, hU⟩ := hrel
                                obtain ⟨G, hG⟩ : ∃ G : Nat → Int, ∀ t, G t = du[t]! := ⟨fun t => du[t]!, fun _ => rfl⟩
                                have hcw : ∀ t, t < d.size → wr.cell? ⟨blk, off + t, none⟩ = some (.int .u64 (G t)) := fun t ht => by
                                  rw [hw3, hG]; exact cell?_putRow _ _ _ _ d du (holds_ahead _ _ _ _ _ _ HH.out) hsu t (by omega)
                                have hfw : ∀ t, t < d.size → wr.frozen? ⟨blk, off + t, none⟩ = false := fun t ht => by
                                  rw [hw3, frozen?_putRow]; exact ((holds_ahead _ _ m3 _ _ _ HH.out) t ht).2
                                have HW : Hid (wr = putRow (Value.int .u64) (Sort.ahead w m3) blk off du) := hw3
                                have HG : Hid (∀ t, G t = du[t]!) := hG
                                have HU : Hid (shiftUp ltInt b j du = shiftUp ltInt b (k + 1) (swp dk k (k - 1))) := hU
                                clear hw3 hG hU
                                go_wp2
                                all_goals first
                                  | (at_region 22
                                     go_quiet (first | (go_at_call 204; refine Calls.quiet_of_same (su_cmp_Less_int _ _ _)))
                                     go_wp2
                                     all_goals first
                                       | (at_region 23
                                          have hl : ltInt (G j) (G (j - 1)) = true := by
                                            have h : (!ltInt (G j) (G (j - 1))) = false := by assumption
                                            simpa using h
                                          go_region
                                          all_goals go_wp2
                                          go_roundw
                                          case rel =>
                                            refine ⟨j + 1, m3 + (nq + 1), swp du j (j - 1), by go_num, by omega, by omega, by rw [size_swp]; exact hsu, ?_, ?_⟩
                                            · rw [HW.out, HG.out, HG.out]
                                              exact swap_worldA _ w m3 (nq + 1) blk off du j (j - 1) (by omega) (by omega)
                                            · rw [← HU.out, shiftUp_go ltInt b j du (by omega) (by rw [← HG.out, ← HG.out]; exact hl)]
                                          case measure => simp [intOf]; omega)
                                       | (at_end
                                          have hl : ltInt (G j) (G (j - 1)) = false := by
                                            have h : (!ltInt (G j) (G (j - 1))) = true := by assumption
                                            simpa using h
                                          go_roundw
                                          case rel =>
                                            refine ⟨k, s + 1, _, du, rfl, by go_num, by omega, by omega, by omega, hsu, (by first | rfl | exact HW.out | (rw [HW.out]; exact putRow_drewN _ _ _ _ _ _ _)), ?_⟩
                                            rw [← HO.out, pi_go ltInt a b s i k dk hs HK.out (by omega) (by omega), HD.out, show fixUp ltInt b k (swp dk k (k - 1)) = du from by unfold fixUp; rw [if_pos (by omega), ← HU.out, shiftUp_stop ltInt b j du (Or.inr (by rw [← HG.out, ← HG.out]; exact hl))]]
                                          case measure => simp [intOf]; omega))
                                  | (at_end
                                     go_roundw
                                     case rel =>
                                       refine ⟨k, s + 1, _, du, rfl, by go_num, by omega, by omega, by omega, hsu, (by first | rfl | exact HW.out | (rw [HW.out]; exact putRow_drewN _ _ _ _ _ _ _)), ?_⟩
                                       rw [← HO.out, pi_go ltInt a b s i k dk hs HK.out (by omega) (by omega), HD.out, show fixUp ltInt b k (swp dk k (k - 1)) = du from by unfold fixUp; rw [if_pos (by omega), ← HU.out, shiftUp_stop ltInt b j du (Or.inl (by omega))]]
                                     case measure => simp [intOf]; omega)))))
        · -- the scan has come to b: true
          go_quiet (first | (go_at_call 204; refine Calls.quiet_of_same (su_cmp_Less_int _ _ _)))
          go_wp2
          obtain rfl : k = b := by omega
          have hv : Sort.partialInsertionSort ltInt d a k = (dk, true) := by
            unfold Sort.partialInsertionSort
            rw [← HO.out, pi_true ltInt a k s i dk hs (by rw [← HS.out, scanSorted_stop ltInt dk k k (Or.inl (by omega))])]
          rw [hv]
          go_ret
          exact ⟨rfl, m + nq, by rw [HW.out]; exact putRow_drewN _ _ _ _ _ _ _⟩
    · -- five steps are done: false
      obtain rfl : s = 5 := by omega
      have hv : Sort.partialInsertionSort ltInt d a b = (dk, false) := by
        unfold Sort.partialInsertionSort
        rw [← HO.out, pi_end]
      rw [hv]
      go_ret
      exact ⟨rfl, n, rfl⟩
end Go.Proofs

namespace Go.Proofs
open Go.RowKit Go.Sort
set_option maxHeartbeats 6400000 in
set_option maxRecDepth 1000000 in
theorem su_partitionEqual_int (blk off cap a b pivot:Nat) (d : Array Int) (w : World) (hH : Holds (Value.int .u64) w blk off d) (hap : a ≤ pivot) (hpb : pivot < b) (hb : b ≤ d.size) (hsz : d.size < 4611686018427387904) :
    Calls Try.prog 205 #[.slice (some ⟨blk, off, none⟩) d.size cap, .int .i64 a, .int .i64 b, .int .i64 pivot] w fun e w' =>
      e = .returned (.int .i64 (Sort.partitionEqual Sort.ltInt d a b pivot).1) ∧ ∃ n, w' = (putRow (Value.int .u64) w blk off (Sort.partitionEqual Sort.ltInt d a b pivot).2).drewN n := by
  have hla : a < d.size := by omega
  have hlp : pivot < d.size := by omega
  -- THE ROW's CONTENTS UNDER A NAME OF THEIR OWN: with 'pivot < d.size' at hand the walk's simp turns 'd[pivot]!' into 'd[pivot]', and a fact spelt the other way no longer strikes
  obtain ⟨G, hG⟩ : ∃ G : Nat → Int, ∀ j, G j = d[j]! := ⟨fun j => d[j]!, fun _ => rfl⟩
  have ca : w.cell? ⟨blk, off + a, none⟩ = some (.int .u64 (G a)) := by rw [hG]; exact (hH a hla).1
  have fa := (hH a hla).2
  have cp : w.cell? ⟨blk, off + pivot, none⟩ = some (.int .u64 (G pivot)) := by rw [hG]; exact (hH pivot hlp).1
  have fp := (hH pivot hlp).2
  obtain ⟨v', hy'⟩ := cell?_setCell_some (w := w) (p := ⟨blk, off + a, none⟩) (x := .int .u64 (G pivot)) (q := ⟨blk, off + pivot, none⟩) cp
  have AG : Hid (∀ j, G j = d[j]!) := hG
  have AH : Hid (Holds (Value.int .u64) w blk off d) := hH
  clear hG hH
  go_enter Try.func205, Try.ntmps205
  go_wp2
  go_region
  go_wp2
  -- THE 'for {'
  go_loopw [9, 10] (fun vi vj wr => ∃ (i j n:Nat) (dk : Array Int), vi = .int .i64 i ∧ vj = .int .i64 j ∧ a < i ∧ i ≤ j + 1 ∧ j < b ∧ dk.size = d.size ∧ wr = (putRow (Value.int .u64) w blk off dk).drewN n ∧
      Sort.partEqLoop Sort.ltInt a i j dk = Sort.partEqLoop Sort.ltInt a (a + 1) (b - 1) (Sort.swp d a pivot))
    (fun vi vj _ => (intOf vj).toNat + 1 - (intOf vi).toNat)
  case atStart =>
    refine ⟨a + 1, b - 1, 1, Sort.swp d a pivot, by go_num, by go_num, by omega, by omega, by omega, size_swp _ _ _, ?_, rfl⟩
    have e := swap_worldC (Value.int .u64) w blk off d 0 a pivot hla hlp
    rw [putRow_self _ w blk off d AH.out] at e
    rw [AG.out a, AG.out pivot]
    exact e
  case round =>
    obtain ⟨i, j, n, dk, rfl, rfl, hai, hij, hjb, hs, hw, heq⟩ := hrel
    clear ca fa cp fp hy' v' AG
    rename World => W1
    have hHk : Holds (Value.int .u64) W1 blk off dk := by
      rw [hw]
      exact holds_putRow (Value.int .u64) w blk off d dk AH.out hs
    obtain ⟨Gk, hG⟩ : ∃ Gk : Nat → Int, ∀ t, Gk t = dk[t]! := ⟨fun t => dk[t]!, fun _ => rfl⟩
    have hc : ∀ t, t < d.size → W1.cell? ⟨blk, off + t, none⟩ = some (.int .u64 (Gk t)) := fun t ht => by rw [hG]; exact (hHk t (by omega)).1
    have hf : ∀ t, t < d.size → W1.frozen? ⟨blk, off + t, none⟩ = false := fun t ht => (hHk t (by omega)).2
    have AG : Hid (∀ t, Gk t = dk[t]!) := hG
    have AW : Hid (W1 = (putRow (Value.int .u64) w blk off dk).drewN n) := hw
    have AE : Hid (Sort.partEqLoop Sort.ltInt a i j dk = Sort.partEqLoop Sort.ltInt a (a + 1) (b - 1) (Sort.swp d a pivot)) := heq
    clear hG hw heq hHk
    go_wp2
    -- THE UPWARD SCAN
    go_loopw [9] (fun vi w1 => ∃ (i' n1:Nat), vi = .int .i64 i' ∧ i ≤ i' ∧ i' ≤ j + 1 ∧ w1 = W1.drewN n1 ∧
        Hid (Sort.scanUp (fun x => !Sort.ltInt dk[a]! x) dk j i' = Sort.scanUp (fun x => !Sort.ltInt dk[a]! x) dk j i))
      (fun vi _ => j + 1 - (intOf vi).toNat)
    case atStart => exact ⟨i, 0, rfl, Nat.le_refl _, hij, rfl, rfl⟩
    case round =>
      obtain ⟨i', n1, rfl, hii, hij', hw1, hsc⟩ := hrel
      -- THE ROUND's WORLD STAYS A VARIABLE (as 'W1.drewN n1' the walk's simp would merge the draws, and the quiet law's end would not fit)
      have hcw : ∀ t, t < d.size → wr.cell? ⟨blk, off + t, none⟩ = some (.int .u64 (Gk t)) := fun t ht => by rw [hw1]; exact hc t ht
      have HW1 : Hid (wr = W1.drewN n1) := hw1
      clear hw1
      by_cases hle : i' ≤ j
      · go_wp2_with fail
        go_big_quiet (first | (go_at_call 204; refine Calls.quiet_of_same (su_cmp_Less_int _ _ _)))
        go_wp2
        · -- it goes on: i++
          have ht : (!Sort.ltInt (Gk a) (Gk i')) = true := by assumption
          go_roundw
          case rel => exact ⟨i' + 1, n1 + nq, by go_num, by omega, by omega, by rw [HW1.out, World.drewN_drewN], (scanUp_go (fun x => !Sort.ltInt dk[a]! x) dk j i' hle (by rw [← AG.out a, ← AG.out i']; exact ht)).symm.trans hsc.out⟩
          case measure => simp [intOf]; omega
        · -- it stops: the test has failed
          have ht : (!Sort.ltInt (Gk a) (Gk i')) = false := by assumption
          have hi2 : Hid (i' = Sort.scanUp (fun x => !Sort.ltInt dk[a]! x) dk j i) := (scanUp_end (fun x => !Sort.ltInt dk[a]! x) dk j i' (Or.inr (by rw [← AG.out a, ← AG.out i']; exact ht))).symm.trans hsc.out
          clear ht
          -- THE DOWNWARD SCAN
          have hw2 : wr.drewN nq = W1.drewN (n1 + nq) := by rw [HW1.out, World.drewN_drewN]
          clear hcw HW1 hsc
          go_loopw [10] (fun vj w2 => ∃ (j' n2:Nat), vj = .int .i64 j' ∧ j' ≤ j ∧ i' ≤ j' + 1 ∧ w2 = W1.drewN n2 ∧
              Hid (Sort.scanDown (fun x => Sort.ltInt dk[a]! x) dk i' j' = Sort.scanDown (fun x => Sort.ltInt dk[a]! x) dk i' j))
            (fun vj _ => (intOf vj).toNat)
          case atStart => exact ⟨j, n1 + nq, rfl, Nat.le_refl _, hij', hw2, rfl⟩
          case round =>
            clear hw2
            obtain ⟨j', n2, rfl, hjj, hij2, hw2, hsd⟩ := hrel
            have hcw : ∀ t, t < d.size → wr.cell? ⟨blk, off + t, none⟩ = some (.int .u64 (Gk t)) := fun t ht => by rw [hw2]; exact hc t ht
            have HW2 : Hid (wr = W1.drewN n2) := hw2
            clear hw2
            by_cases hle2 : i' ≤ j'
            · go_wp2_with fail
              go_big_quiet (first | (go_at_call 204; refine Calls.quiet_of_same (su_cmp_Less_int _ _ _)))
              go_wp2
              · -- it goes on: j--
                have ht : Sort.ltInt (Gk a) (Gk j') = true := by assumption
                go_roundw
                case rel => exact ⟨j' - 1, n2 + nq, by go_num, by omega, by omega, by rw [HW2.out, World.drewN_drewN], (scanDown_go (fun x => Sort.ltInt dk[a]! x) dk i' j' hle2 (by omega) (by rw [← AG.out a, ← AG.out j']; exact ht)).symm.trans hsd.out⟩
                case measure => simp [intOf]; omega
              · -- it stops: the test has failed
                have ht : Sort.ltInt (Gk a) (Gk j') = false := by assumption
                have hj2 : Hid (j' = Sort.scanDown (fun x => Sort.ltInt dk[a]! x) dk i' j) := (scanDown_end (fun x => Sort.ltInt dk[a]! x) dk i' j' (Or.inr (by rw [← AG.out a, ← AG.out j']; exact ht))).symm.trans hsd.out
                clear hcw hsd ht
                -- BEHIND BOTH SCANS
                have hw3 : wr.drewN nq = W1.drewN (n2 + nq) := by rw [HW2.out, World.drewN_drewN]
                generalize wr.drewN nq = W3 at hw3 ⊢
                have hc3 : ∀ t, t < d.size → W3.cell? ⟨blk, off + t, none⟩ = some (.int .u64 (Gk t)) := fun t ht => by rw [hw3]; exact hc t ht
                have hf3 : ∀ t, t < d.size → W3.frozen? ⟨blk, off + t, none⟩ = false := fun t ht => by rw [hw3]; exact hf t ht
                have HW3 : Hid (W3 = W1.drewN (n2 + nq)) := hw3
                clear hw3
                -- the exchange; i++; j--
                obtain ⟨v3, hy3⟩ := cell?_setCell_some (w := W3) (p := ⟨blk, off + i', none⟩) (x := .int .u64 (Gk j')) (q := ⟨blk, off + j', none⟩) (hc3 j' (by omega))
                have hlt3 := scans_lt Sort.ltInt a i j dk (by omega) hi2.out hj2.out hle2
                go_wp2
                go_region
                all_goals go_wp2
                all_goals go_roundw
                case rel =>
                  refine ⟨i' + 1, j' - 1, n + (n2 + nq) + 1, Sort.swp dk i' j', by go_num, by go_num, by omega, by omega, by omega, by rw [size_swp]; exact hs, ?_, ?_⟩
                  · rw [HW3.out, AW.out, World.drewN_drewN, AG.out i', AG.out j']
                    exact swap_worldC (Value.int .u64) w blk off dk _ i' j' (by omega) (by omega)
                  · rw [← AE.out]; exact (partEq_go Sort.ltInt a i j dk hi2.out hj2.out (by omega)).symm
                case measure => simp [intOf]; omega
            · go_wp2_with fail
              go_big_quiet (first | (go_at_call 204; refine Calls.quiet_of_same (su_cmp_Less_int _ _ _)))
              -- it stops: i > j
              have hj2 : Hid (j' = Sort.scanDown (fun x => Sort.ltInt dk[a]! x) dk i' j) := (scanDown_end (fun x => Sort.ltInt dk[a]! x) dk i' j' (Or.inl hle2)).symm.trans hsd.out
              clear hcw hsd
              -- BEHIND BOTH SCANS
              have hw3 : wr.drewN nq = W1.drewN (n2 + nq) := by rw [HW2.out, World.drewN_drewN]
              generalize wr.drewN nq = W3 at hw3 ⊢
              have hc3 : ∀ t, t < d.size → W3.cell? ⟨blk, off + t, none⟩ = some (.int .u64 (Gk t)) := fun t ht => by rw [hw3]; exact hc t ht
              have hf3 : ∀ t, t < d.size → W3.frozen? ⟨blk, off + t, none⟩ = false := fun t ht => by rw [hw3]; exact hf t ht
              have HW3 : Hid (W3 = W1.drewN (n2 + nq)) := hw3
              clear hw3
              -- i > j: break; return i
              go_wp2
              go_ret
              have e := partEq_break Sort.ltInt a i j dk hi2.out hj2.out (by omega)
              refine ⟨?_, n + (n2 + nq), ?_⟩
              · unfold Sort.partitionEqual; rw [← AE.out, e]; rfl
              · unfold Sort.partitionEqual; rw [← AE.out, e, HW3.out, AW.out, World.drewN_drewN]
      · go_wp2_with fail
        go_big_quiet (first | (go_at_call 204; refine Calls.quiet_of_same (su_cmp_Less_int _ _ _)))
        go_wp2
        -- it stops: i > j
        have hi2 : Hid (i' = Sort.scanUp (fun x => !Sort.ltInt dk[a]! x) dk j i) := (scanUp_end (fun x => !Sort.ltInt dk[a]! x) dk j i' (Or.inl hle)).symm.trans hsc.out
        -- THE DOWNWARD SCAN
        have hw2 : wr.drewN nq = W1.drewN (n1 + nq) := by rw [HW1.out, World.drewN_drewN]
        clear hcw HW1 hsc
        go_loopw [10] (fun vj w2 => ∃ (j' n2:Nat), vj = .int .i64 j' ∧ j' ≤ j ∧ i' ≤ j' + 1 ∧ w2 = W1.drewN n2 ∧
            Hid (Sort.scanDown (fun x => Sort.ltInt dk[a]! x) dk i' j' = Sort.scanDown (fun x => Sort.ltInt dk[a]! x) dk i' j))
          (fun vj _ => (intOf vj).toNat)
        case atStart => exact ⟨j, n1 + nq, rfl, Nat.le_refl _, hij', hw2, rfl⟩
        case round =>
          clear hw2
          obtain ⟨j', n2, rfl, hjj, hij2, hw2, hsd⟩ := hrel
          have hcw : ∀ t, t < d.size → wr.cell? ⟨blk, off + t, none⟩ = some (.int .u64 (Gk t)) := fun t ht => by rw [hw2]; exact hc t ht
          have HW2 : Hid (wr = W1.drewN n2) := hw2
          clear hw2
          by_cases hle2 : i' ≤ j'
          · exfalso; omega      -- the upward scan has run past j, and j' ≤ j
          · go_wp2_with fail
            go_big_quiet (first | (go_at_call 204; refine Calls.quiet_of_same (su_cmp_Less_int _ _ _)))
            -- it stops: i > j
            have hj2 : Hid (j' = Sort.scanDown (fun x => Sort.ltInt dk[a]! x) dk i' j) := (scanDown_end (fun x => Sort.ltInt dk[a]! x) dk i' j' (Or.inl hle2)).symm.trans hsd.out
            clear hcw hsd
            -- BEHIND BOTH SCANS
            have hw3 : wr.drewN nq = W1.drewN (n2 + nq) := by rw [HW2.out, World.drewN_drewN]
            generalize wr.drewN nq = W3 at hw3 ⊢
            have hc3 : ∀ t, t < d.size → W3.cell? ⟨blk, off + t, none⟩ = some (.int .u64 (Gk t)) := fun t ht => by rw [hw3]; exact hc t ht
            have hf3 : ∀ t, t < d.size → W3.frozen? ⟨blk, off + t, none⟩ = false := fun t ht => by rw [hw3]; exact hf t ht
            have HW3 : Hid (W3 = W1.drewN (n2 + nq)) := hw3
            clear hw3
            -- i > j: break; return i
            go_wp2
            go_ret
            have e := partEq_break Sort.ltInt a i j dk hi2.out hj2.out (by omega)
            refine ⟨?_, n + (n2 + nq), ?_⟩
            · unfold Sort.partitionEqual; rw [← AE.out, e]; rfl
            · unfold Sort.partitionEqual; rw [← AE.out, e, HW3.out, AW.out, World.drewN_drewN]

theorem su_partitionEqualOrdered_int (blk off cap a b pivot:Nat) (d : Array Int) (w : World) (hH : Holds (Value.int .u64) w blk off d) (hap : a ≤ pivot) (hpb : pivot < b) (hb : b ≤ d.size) (hsz : d.size < 4611686018427387904) :
    Calls Try.prog 205 #[.slice (some ⟨blk, off, none⟩) d.size cap, .int .i64 a, .int .i64 b, .int .i64 pivot] w fun e w' =>
      e = .returned (.int .i64 (Sort.partitionEqual Sort.ltInt d a b pivot).1) ∧ ∃ n, w' = putRow (Value.int .u64) (Sort.ahead w n) blk off (Sort.partitionEqual Sort.ltInt d a b pivot).2 :=
  (su_partitionEqual_int blk off cap a b pivot d w hH hap hpb hb hsz).mono fun _ _ ⟨he, n, hw⟩ => ⟨he, n, hw⟩
end Go.Proofs

