/- Contracts of the functions of this seat, each by the executor and the kernel; part 5. Their conditions stand in each. -/
import Derived.Test.YtoldganbhlgboaaC4
set_option linter.unusedVariables false
set_option linter.unusedSimpArgs false
set_option linter.unnecessarySimpa false
namespace Go.Sx.M
open Go Go.Sx Go.Proofs Go.RowKit
set_option maxRecDepth 100000
structure V18 where
  size : Int
  L : Nat
  Q : Nat
  ob_ : Obj
  ok : Nat → Int
  oa : Nat → Int
  ow : Nat → Int
def A18 (v : V18) : List SV := [.int .u64 v.size, .slc 0 3 0 v.L]
def H18 (v : V18) : List (HO th.R) := [.ro 108 3 v.Q (fun j => [.int .i64 (v.ok j), .int .u64 (v.oa j), .int .u64 (v.ow j)]) v.ob_]
def toV18 (v : V18) : List (Vl th.R) := [.i v.size, .n v.L, .n v.Q, .o v.ob_, .c v.ok, .c v.oa, .c v.ow]
def ofV18 : List (Vl th.R) → Option V18
  | [.i size, .n L, .n Q, .o ob_, .c ok, .c oa, .c ow] => some ⟨size, L, Q, ob_, ok, oa, ow⟩
  | _ => none
def d18 : Ft := ⟨[.int .u64, .slc0 0 3], [.roc 108 [.int .i64, .int .u64, .int .u64]]⟩
structure P18_0 where
  b4 : Bool
  n43 : Nat
  x44 : Int
  N0 : Nat
  O0 : Obj
  F0_0 : Nat → Int
  F0_1 : Nat → Int
  F0_2 : Nat → Int
  xh2_0 : Int
structure S18_0 where
  x45 : Int
  n7_1 : Nat
  N3 : Nat
  F3_0 : Nat → Int
  F3_1 : Nat → Int
  R4 : th.R
noncomputable instance : Inhabited S18_0 := ⟨⟨0, 0, 0, fun _ => 0, fun _ => 0, dR⟩⟩
def I18_0 (p : P18_0) (s : S18_0) : St th.R := ⟨[none, none, none, none, some (.bool p.b4), some (.ptr 4 0), none, some (.ptr 2 0), none, none, none, none, none, none, none, none, none, none, none, none, none, none, none, none, none, none, none, none, none, none, none, none, none, none, none, none, none, none, none, none, none, none, none, some (.slc 0 3 0 p.n43), some (.int .i64 p.x44), some (.int .i64 s.x45), none, none, none, none, none, none, none, none, none, none, none, none, none, none, none, none, none, none, none, none, none, none, none, none, none, none, none, none, none, none, none, none, none, none, none, none, none, none, none, none, none, none, none, none, none, none, none, none, none, none, none, none, none, none, none, none, none, none, none, none, none, none, none, none, none, none, none, none, none, none, none, none, none, none, none, none, none, none, none], [.ro 108 3 p.N0 (fun j => [.int .i64 (p.F0_0 j), .int .u64 (p.F0_1 j), .int .u64 (p.F0_2 j)]) p.O0, .gone, .cells 126 [.int .u64 p.xh2_0, .slc 3 2 0 s.n7_1], .row 195 2 s.N3 (fun j => [.int .u64 (s.F3_0 j), .int .u64 (s.F3_1 j)]), .res s.R4], [], []⟩
def d18_0 : Lp := ⟨⟨125, [(4, .bool), (5, .ptr 4 0), (7, .ptr 2 0), (43, .slc0 0 3), (44, .int .i64), (45, .int .i64)], [.roc 108 [.int .i64, .int .u64, .int .u64], .gone, .cells 126 [.int .u64, .slc0 3 2], .rowc 195 [.int .u64, .int .u64], .res]⟩, [⟨2007, 195, 2⟩, ⟨5, 0, 0⟩], 3, [1, 2], [4], []⟩
def toV18_0 (p : P18_0) (s : S18_0) : List (Vl th.R) := [.b p.b4, .n p.n43, .i p.x44, .i s.x45, .n p.N0, .o p.O0, .c p.F0_0, .c p.F0_1, .c p.F0_2, .i p.xh2_0, .n s.n7_1, .n s.N3, .c s.F3_0, .c s.F3_1, .r s.R4]
def ofV18_0 : List (Vl th.R) → Option (P18_0 × S18_0)
  | [.b b4, .n n43, .i x44, .i x45, .n N0, .o O0, .c F0_0, .c F0_1, .c F0_2, .i xh2_0, .n n7_1, .n N3, .c F3_0, .c F3_1, .r R4] => some (⟨b4, n43, x44, N0, O0, F0_0, F0_1, F0_2, xh2_0⟩, ⟨x45, n7_1, N3, F3_0, F3_1, R4⟩)
  | _ => none
noncomputable def e18_0_59 (p : P18_0) (s : S18_0) : (Nat) := (0:Nat) + s.x45.toNat
noncomputable def e18_0_60 (p : P18_0) (s : S18_0) : (Bool) := p.F0_0 (e18_0_59 p s) == (1:Int)
noncomputable def e18_0_61 (p : P18_0) (s : S18_0) : (Int) := p.F0_1 (e18_0_59 p s)
noncomputable def e18_0_62 (p : P18_0) (s : S18_0) : (Int) := p.F0_2 (e18_0_59 p s)
noncomputable def e18_0_63 (p : P18_0) (s : S18_0) : (Int) := errI p.xh2_0 (e18_0_61 p s)
noncomputable def e18_0_64 (p : P18_0) (s : S18_0) : (Bool) := errI (szM s.R4) (e18_0_61 p s) != e18_0_63 p s
noncomputable def e18_0_65 (p : P18_0) (s : S18_0) : (Nat) := (wrR p.xh2_0 (pl s.F3_0 s.F3_1 s.n7_1) (e18_0_61 p s) (e18_0_62 p s)).length
noncomputable def e18_0_66 (p : P18_0) (s : S18_0) : (Mem) := wrM s.R4 (e18_0_61 p s) (e18_0_62 p s)
noncomputable def e18_0_67 (p : P18_0) (s : S18_0) : (Bool) := p.F0_0 (e18_0_59 p s) == (2:Int)
noncomputable def e18_0_68 (p : P18_0) (s : S18_0) : (Bool) := p.F0_0 (e18_0_59 p s) == (3:Int)
noncomputable def e18_0_69 (p : P18_0) (s : S18_0) : (Nat) := (clR p.xh2_0 (pl s.F3_0 s.F3_1 s.n7_1) (e18_0_61 p s) (e18_0_62 p s)).length
noncomputable def e18_0_70 (p : P18_0) (s : S18_0) : (Mem) := clM s.R4 (e18_0_61 p s) (e18_0_62 p s)
noncomputable def e18_0_71 (p : P18_0) (s : S18_0) : (Bool) := p.F0_0 (e18_0_59 p s) == (4:Int)
noncomputable def e18_0_0 (p : P18_0) (s : S18_0) : (Bool) := cnd (decide (s.x45 < p.x44)) false true
noncomputable def e18_0_1 (p : P18_0) (s : S18_0) : (Prop) := (∀ (i:Nat), scpL (0:Nat) ((fun (j:Nat) => [SV.int IntKind.i64 (p.F0_0 j), SV.int IntKind.u64 (p.F0_1 j), SV.int IntKind.u64 (p.F0_2 j)]) i) = true) ∧ ∀ (i:Nat), scpL (0:Nat) ((fun (j:Nat) => [SV.int IntKind.u64 (s.F3_0 j), SV.int IntKind.u64 (s.F3_1 j)]) i) = true
noncomputable def e18_0_2 (p : P18_0) (s : S18_0) : (Prop) := (0:Int) ≤ s.x45 ∧ s.x45 < (↑p.n43:Int)
noncomputable def e18_0_3 (p : P18_0) (s : S18_0) : (Prop) := e18_0_59 p s < p.N0
noncomputable def e18_0_4 (p : P18_0) (s : S18_0) : (Prop) := e18_0_60 p s = true → ∀ (i:Nat), scpL (0:Nat) ((fun (j:Nat) => [SV.int IntKind.u64 (s.F3_0 j), SV.int IntKind.u64 (s.F3_1 j)]) i) = true
noncomputable def e18_0_5 (p : P18_0) (s : S18_0) : (Prop) := e18_0_60 p s = true → ∀ (i:Nat), i < s.N3 → (fun (j:Nat) => [SV.int IntKind.u64 (s.F3_0 j), SV.int IntKind.u64 (s.F3_1 j)]) i = elC (fun (j:Nat) => [SV.int IntKind.u64 (s.F3_0 j), SV.int IntKind.u64 (s.F3_1 j)]) (0:Nat) [Ck.int IntKind.u64, Ck.int IntKind.u64] i
noncomputable def e18_0_6 (p : P18_0) (s : S18_0) : (Prop) := e18_0_60 p s = true → pre85 (V85.mk p.xh2_0 s.n7_1 (e18_0_61 p s) (e18_0_62 p s) s.N3 s.F3_0 s.F3_1)
noncomputable def e18_0_7 (p : P18_0) (s : S18_0) : (Prop) := e18_0_60 p s = true → ∀ (i:Nat), scpL (0:Nat) ((fun (j:Nat) => [SV.int IntKind.u64 (gP (wrR p.xh2_0 (pl s.F3_0 s.F3_1 s.n7_1) (e18_0_61 p s) (e18_0_62 p s)) j).fst, SV.int IntKind.u64 (gP (wrR p.xh2_0 (pl s.F3_0 s.F3_1 s.n7_1) (e18_0_61 p s) (e18_0_62 p s)) j).snd]) i) = true
noncomputable def e18_0_8 (p : P18_0) (s : S18_0) : (Prop) := e18_0_60 p s = true → ((0:Int) ≤ e18_0_61 p s ∧ e18_0_61 p s < (18446744073709551616:Int)) ∧ (0:Int) ≤ e18_0_62 p s ∧ e18_0_62 p s < (18446744073709551616:Int)
noncomputable def e18_0_9 (p : P18_0) (s : S18_0) : (Bool) := cnd (e18_0_60 p s) (e18_0_64 p s) false
noncomputable def e18_0_10 (p : P18_0) (s : S18_0) : (Prop) := (∀ (i:Nat), scpL (0:Nat) ((fun (j:Nat) => [SV.int IntKind.i64 (p.F0_0 j), SV.int IntKind.u64 (p.F0_1 j), SV.int IntKind.u64 (p.F0_2 j)]) i) = true) ∧ ∀ (i:Nat), scpL (0:Nat) ((fun (j:Nat) => [SV.int IntKind.u64 (gP (wrR p.xh2_0 (pl s.F3_0 s.F3_1 s.n7_1) (e18_0_61 p s) (e18_0_62 p s)) j).fst, SV.int IntKind.u64 (gP (wrR p.xh2_0 (pl s.F3_0 s.F3_1 s.n7_1) (e18_0_61 p s) (e18_0_62 p s)) j).snd]) i) = true
noncomputable def e18_0_11 (p : P18_0) (s : S18_0) : (Nat) := e18_0_65 p s
noncomputable def e18_0_12 (p : P18_0) (s : S18_0) : Nat → (Int) := fun (j:Nat) => (gP (wrR p.xh2_0 (pl s.F3_0 s.F3_1 s.n7_1) (e18_0_61 p s) (e18_0_62 p s)) j).fst
noncomputable def e18_0_13 (p : P18_0) (s : S18_0) : Nat → (Int) := fun (j:Nat) => (gP (wrR p.xh2_0 (pl s.F3_0 s.F3_1 s.n7_1) (e18_0_61 p s) (e18_0_62 p s)) j).snd
noncomputable def e18_0_14 (p : P18_0) (s : S18_0) : (Mem) := e18_0_66 p s
noncomputable def e18_0_15 (p : P18_0) (s : S18_0) : (Prop) := e18_0_60 p s = false → e18_0_67 p s = true → (0:Int) ≤ e18_0_61 p s ∧ e18_0_61 p s < (18446744073709551616:Int)
noncomputable def e18_0_16 (p : P18_0) (s : S18_0) : (Prop) := e18_0_60 p s = false → e18_0_67 p s = true → ∀ (i:Nat), scpL (0:Nat) ((fun (j:Nat) => [SV.int IntKind.u64 (s.F3_0 j), SV.int IntKind.u64 (s.F3_1 j)]) i) = true
noncomputable def e18_0_17 (p : P18_0) (s : S18_0) : (Prop) := e18_0_60 p s = false → e18_0_67 p s = true → ∀ (i:Nat), i < s.N3 → (fun (j:Nat) => [SV.int IntKind.u64 (s.F3_0 j), SV.int IntKind.u64 (s.F3_1 j)]) i = elC (fun (j:Nat) => [SV.int IntKind.u64 (s.F3_0 j), SV.int IntKind.u64 (s.F3_1 j)]) (0:Nat) [Ck.int IntKind.u64, Ck.int IntKind.u64] i
noncomputable def e18_0_18 (p : P18_0) (s : S18_0) : (Prop) := e18_0_60 p s = false → e18_0_67 p s = true → pre86 (V86.mk p.xh2_0 s.n7_1 (e18_0_61 p s) s.N3 s.F3_0 s.F3_1)
noncomputable def e18_0_19 (p : P18_0) (s : S18_0) : (Bool) := cnd (e18_0_60 p s) false (cnd (e18_0_67 p s) (cnd (e18_0_64 p s) true (rdM s.R4 (e18_0_61 p s) != cnd (e18_0_63 p s != (0:Int)) (0:Int) (rdL (pl s.F3_0 s.F3_1 s.n7_1) (e18_0_61 p s)))) false)
noncomputable def e18_0_20 (p : P18_0) (s : S18_0) : (Prop) := e18_0_60 p s = false → e18_0_67 p s = false → e18_0_68 p s = true → ∀ (i:Nat), scpL (0:Nat) ((fun (j:Nat) => [SV.int IntKind.u64 (s.F3_0 j), SV.int IntKind.u64 (s.F3_1 j)]) i) = true
noncomputable def e18_0_21 (p : P18_0) (s : S18_0) : (Prop) := e18_0_60 p s = false → e18_0_67 p s = false → e18_0_68 p s = true → ∀ (i:Nat), i < s.N3 → (fun (j:Nat) => [SV.int IntKind.u64 (s.F3_0 j), SV.int IntKind.u64 (s.F3_1 j)]) i = elC (fun (j:Nat) => [SV.int IntKind.u64 (s.F3_0 j), SV.int IntKind.u64 (s.F3_1 j)]) (0:Nat) [Ck.int IntKind.u64, Ck.int IntKind.u64] i
noncomputable def e18_0_22 (p : P18_0) (s : S18_0) : (Prop) := e18_0_60 p s = false → e18_0_67 p s = false → e18_0_68 p s = true → pre87 (V87.mk p.xh2_0 s.n7_1 (e18_0_61 p s) (e18_0_62 p s) s.N3 s.F3_0 s.F3_1)
noncomputable def e18_0_23 (p : P18_0) (s : S18_0) : (Prop) := e18_0_60 p s = false → e18_0_67 p s = false → e18_0_68 p s = true → ∀ (i:Nat), scpL (0:Nat) ((fun (j:Nat) => [SV.int IntKind.u64 (gP (clR p.xh2_0 (pl s.F3_0 s.F3_1 s.n7_1) (e18_0_61 p s) (e18_0_62 p s)) j).fst, SV.int IntKind.u64 (gP (clR p.xh2_0 (pl s.F3_0 s.F3_1 s.n7_1) (e18_0_61 p s) (e18_0_62 p s)) j).snd]) i) = true
noncomputable def e18_0_24 (p : P18_0) (s : S18_0) : (Prop) := e18_0_60 p s = false → e18_0_67 p s = false → e18_0_68 p s = true → ((0:Int) ≤ e18_0_61 p s ∧ e18_0_61 p s < (18446744073709551616:Int)) ∧ (0:Int) ≤ e18_0_62 p s ∧ e18_0_62 p s < (18446744073709551616:Int)
noncomputable def e18_0_25 (p : P18_0) (s : S18_0) : (Bool) := cnd (e18_0_60 p s) false (cnd (e18_0_67 p s) false (cnd (e18_0_68 p s) (errC (szM s.R4) (e18_0_61 p s) (e18_0_62 p s) != errC p.xh2_0 (e18_0_61 p s) (e18_0_62 p s)) false))
noncomputable def e18_0_26 (p : P18_0) (s : S18_0) : (Prop) := (∀ (i:Nat), scpL (0:Nat) ((fun (j:Nat) => [SV.int IntKind.i64 (p.F0_0 j), SV.int IntKind.u64 (p.F0_1 j), SV.int IntKind.u64 (p.F0_2 j)]) i) = true) ∧ ∀ (i:Nat), scpL (0:Nat) ((fun (j:Nat) => [SV.int IntKind.u64 (gP (clR p.xh2_0 (pl s.F3_0 s.F3_1 s.n7_1) (e18_0_61 p s) (e18_0_62 p s)) j).fst, SV.int IntKind.u64 (gP (clR p.xh2_0 (pl s.F3_0 s.F3_1 s.n7_1) (e18_0_61 p s) (e18_0_62 p s)) j).snd]) i) = true
noncomputable def e18_0_27 (p : P18_0) (s : S18_0) : (Nat) := e18_0_69 p s
noncomputable def e18_0_28 (p : P18_0) (s : S18_0) : Nat → (Int) := fun (j:Nat) => (gP (clR p.xh2_0 (pl s.F3_0 s.F3_1 s.n7_1) (e18_0_61 p s) (e18_0_62 p s)) j).fst
noncomputable def e18_0_29 (p : P18_0) (s : S18_0) : Nat → (Int) := fun (j:Nat) => (gP (clR p.xh2_0 (pl s.F3_0 s.F3_1 s.n7_1) (e18_0_61 p s) (e18_0_62 p s)) j).snd
noncomputable def e18_0_30 (p : P18_0) (s : S18_0) : (Mem) := e18_0_70 p s
noncomputable def e18_0_31 (p : P18_0) (s : S18_0) : (Prop) := e18_0_60 p s = false → e18_0_67 p s = false → e18_0_68 p s = false → e18_0_71 p s = true → ((0:Int) ≤ (0:Int) ∧ (0:Int) < (18446744073709551616:Int)) ∧ (0:Int) ≤ (99:Int) ∧ (99:Int) < (18446744073709551616:Int)
noncomputable def e18_0_32 (p : P18_0) (s : S18_0) : (Prop) := e18_0_60 p s = true → ∀ (i:Nat), i < e18_0_65 p s → (fun (j:Nat) => [SV.int IntKind.u64 (gP (wrR p.xh2_0 (pl s.F3_0 s.F3_1 s.n7_1) (e18_0_61 p s) (e18_0_62 p s)) j).fst, SV.int IntKind.u64 (gP (wrR p.xh2_0 (pl s.F3_0 s.F3_1 s.n7_1) (e18_0_61 p s) (e18_0_62 p s)) j).snd]) i = elC (fun (j:Nat) => [SV.int IntKind.u64 (gP (wrR p.xh2_0 (pl s.F3_0 s.F3_1 s.n7_1) (e18_0_61 p s) (e18_0_62 p s)) j).fst, SV.int IntKind.u64 (gP (wrR p.xh2_0 (pl s.F3_0 s.F3_1 s.n7_1) (e18_0_61 p s) (e18_0_62 p s)) j).snd]) (0:Nat) [Ck.int IntKind.u64, Ck.int IntKind.u64] i
noncomputable def e18_0_33 (p : P18_0) (s : S18_0) : (Prop) := e18_0_60 p s = true → pre89 (V89.mk p.xh2_0 (e18_0_65 p s) (e18_0_66 p s) (e18_0_65 p s) (fun (j:Nat) => (gP (wrR p.xh2_0 (pl s.F3_0 s.F3_1 s.n7_1) (e18_0_61 p s) (e18_0_62 p s)) j).fst) fun (j:Nat) => (gP (wrR p.xh2_0 (pl s.F3_0 s.F3_1 s.n7_1) (e18_0_61 p s) (e18_0_62 p s)) j).snd)
noncomputable def e18_0_34 (p : P18_0) (s : S18_0) : (Bool) := cnd (e18_0_60 p s) false false
noncomputable def e18_0_35 (p : P18_0) (s : S18_0) : (Prop) := e18_0_60 p s = false → e18_0_67 p s = true → pre89 (V89.mk p.xh2_0 s.n7_1 s.R4 s.N3 s.F3_0 s.F3_1)
noncomputable def e18_0_36 (p : P18_0) (s : S18_0) : (Bool) := cnd (e18_0_60 p s) false (cnd (e18_0_67 p s) false false)
noncomputable def e18_0_37 (p : P18_0) (s : S18_0) : (Prop) := e18_0_60 p s = false → e18_0_67 p s = false → e18_0_68 p s = true → ∀ (i:Nat), i < e18_0_69 p s → (fun (j:Nat) => [SV.int IntKind.u64 (gP (clR p.xh2_0 (pl s.F3_0 s.F3_1 s.n7_1) (e18_0_61 p s) (e18_0_62 p s)) j).fst, SV.int IntKind.u64 (gP (clR p.xh2_0 (pl s.F3_0 s.F3_1 s.n7_1) (e18_0_61 p s) (e18_0_62 p s)) j).snd]) i = elC (fun (j:Nat) => [SV.int IntKind.u64 (gP (clR p.xh2_0 (pl s.F3_0 s.F3_1 s.n7_1) (e18_0_61 p s) (e18_0_62 p s)) j).fst, SV.int IntKind.u64 (gP (clR p.xh2_0 (pl s.F3_0 s.F3_1 s.n7_1) (e18_0_61 p s) (e18_0_62 p s)) j).snd]) (0:Nat) [Ck.int IntKind.u64, Ck.int IntKind.u64] i
noncomputable def e18_0_38 (p : P18_0) (s : S18_0) : (Prop) := e18_0_60 p s = false → e18_0_67 p s = false → e18_0_68 p s = true → pre89 (V89.mk p.xh2_0 (e18_0_69 p s) (e18_0_70 p s) (e18_0_69 p s) (fun (j:Nat) => (gP (clR p.xh2_0 (pl s.F3_0 s.F3_1 s.n7_1) (e18_0_61 p s) (e18_0_62 p s)) j).fst) fun (j:Nat) => (gP (clR p.xh2_0 (pl s.F3_0 s.F3_1 s.n7_1) (e18_0_61 p s) (e18_0_62 p s)) j).snd)
noncomputable def e18_0_39 (p : P18_0) (s : S18_0) : (Bool) := cnd (e18_0_60 p s) false (cnd (e18_0_67 p s) false (cnd (e18_0_68 p s) false false))
noncomputable def e18_0_40 (p : P18_0) (s : S18_0) : (Prop) := e18_0_60 p s = false → e18_0_67 p s = false → e18_0_68 p s = false → e18_0_71 p s = true → ∀ (i:Nat), scpL (0:Nat) ((fun (j:Nat) => [SV.int IntKind.u64 (s.F3_0 j), SV.int IntKind.u64 (s.F3_1 j)]) i) = true
noncomputable def e18_0_41 (p : P18_0) (s : S18_0) : (Prop) := e18_0_60 p s = false → e18_0_67 p s = false → e18_0_68 p s = false → e18_0_71 p s = true → ∀ (i:Nat), i < s.N3 → (fun (j:Nat) => [SV.int IntKind.u64 (s.F3_0 j), SV.int IntKind.u64 (s.F3_1 j)]) i = elC (fun (j:Nat) => [SV.int IntKind.u64 (s.F3_0 j), SV.int IntKind.u64 (s.F3_1 j)]) (0:Nat) [Ck.int IntKind.u64, Ck.int IntKind.u64] i
noncomputable def e18_0_42 (p : P18_0) (s : S18_0) : (Prop) := e18_0_60 p s = false → e18_0_67 p s = false → e18_0_68 p s = false → e18_0_71 p s = true → pre89 (V89.mk p.xh2_0 s.n7_1 s.R4 s.N3 s.F3_0 s.F3_1)
noncomputable def e18_0_43 (p : P18_0) (s : S18_0) : (Bool) := cnd (e18_0_60 p s) false (cnd (e18_0_67 p s) false (cnd (e18_0_68 p s) false (cnd (e18_0_71 p s) false false)))
noncomputable def e18_0_44 (p : P18_0) (s : S18_0) : (Prop) := e18_0_60 p s = false → e18_0_67 p s = false → e18_0_68 p s = false → e18_0_71 p s = false → ∀ (i:Nat), scpL (0:Nat) ((fun (j:Nat) => [SV.int IntKind.u64 (s.F3_0 j), SV.int IntKind.u64 (s.F3_1 j)]) i) = true
noncomputable def e18_0_45 (p : P18_0) (s : S18_0) : (Prop) := e18_0_60 p s = false → e18_0_67 p s = false → e18_0_68 p s = false → e18_0_71 p s = false → ∀ (i:Nat), i < s.N3 → (fun (j:Nat) => [SV.int IntKind.u64 (s.F3_0 j), SV.int IntKind.u64 (s.F3_1 j)]) i = elC (fun (j:Nat) => [SV.int IntKind.u64 (s.F3_0 j), SV.int IntKind.u64 (s.F3_1 j)]) (0:Nat) [Ck.int IntKind.u64, Ck.int IntKind.u64] i
noncomputable def e18_0_46 (p : P18_0) (s : S18_0) : (Prop) := e18_0_60 p s = false → e18_0_67 p s = false → e18_0_68 p s = false → e18_0_71 p s = false → pre89 (V89.mk p.xh2_0 s.n7_1 s.R4 s.N3 s.F3_0 s.F3_1)
noncomputable def e18_0_47 (p : P18_0) (s : S18_0) : (Bool) := e18_0_60 p s
noncomputable def e18_0_48 (p : P18_0) (s : S18_0) : (Prop) := ((∀ (i:Nat), scpL (0:Nat) ((fun (j:Nat) => [SV.int IntKind.i64 (p.F0_0 j), SV.int IntKind.u64 (p.F0_1 j), SV.int IntKind.u64 (p.F0_2 j)]) i) = true) ∧ ∀ (i:Nat), scpL (0:Nat) ((fun (j:Nat) => [SV.int IntKind.u64 (gP (wrR p.xh2_0 (pl s.F3_0 s.F3_1 s.n7_1) (e18_0_61 p s) (e18_0_62 p s)) j).fst, SV.int IntKind.u64 (gP (wrR p.xh2_0 (pl s.F3_0 s.F3_1 s.n7_1) (e18_0_61 p s) (e18_0_62 p s)) j).snd]) i) = true) ∧ (∀ (i:Nat), i < p.N0 → (fun (j:Nat) => [SV.int IntKind.i64 (p.F0_0 j), SV.int IntKind.u64 (p.F0_1 j), SV.int IntKind.u64 (p.F0_2 j)]) i = elC (fun (j:Nat) => [SV.int IntKind.i64 (p.F0_0 j), SV.int IntKind.u64 (p.F0_1 j), SV.int IntKind.u64 (p.F0_2 j)]) (0:Nat) [Ck.int IntKind.i64, Ck.int IntKind.u64, Ck.int IntKind.u64] i) ∧ ∀ (i:Nat), i < e18_0_65 p s → (fun (j:Nat) => [SV.int IntKind.u64 (gP (wrR p.xh2_0 (pl s.F3_0 s.F3_1 s.n7_1) (e18_0_61 p s) (e18_0_62 p s)) j).fst, SV.int IntKind.u64 (gP (wrR p.xh2_0 (pl s.F3_0 s.F3_1 s.n7_1) (e18_0_61 p s) (e18_0_62 p s)) j).snd]) i = elC (fun (j:Nat) => [SV.int IntKind.u64 (gP (wrR p.xh2_0 (pl s.F3_0 s.F3_1 s.n7_1) (e18_0_61 p s) (e18_0_62 p s)) j).fst, SV.int IntKind.u64 (gP (wrR p.xh2_0 (pl s.F3_0 s.F3_1 s.n7_1) (e18_0_61 p s) (e18_0_62 p s)) j).snd]) (0:Nat) [Ck.int IntKind.u64, Ck.int IntKind.u64] i
noncomputable def e18_0_49 (p : P18_0) (s : S18_0) : (Int) := IntKind.i64.wrap (s.x45 + (1:Int))
noncomputable def e18_0_50 (p : P18_0) (s : S18_0) : (Nat → Int) := fun (j:Nat) => (gP (wrR p.xh2_0 (pl s.F3_0 s.F3_1 s.n7_1) (e18_0_61 p s) (e18_0_62 p s)) j).fst
noncomputable def e18_0_51 (p : P18_0) (s : S18_0) : (Nat → Int) := fun (j:Nat) => (gP (wrR p.xh2_0 (pl s.F3_0 s.F3_1 s.n7_1) (e18_0_61 p s) (e18_0_62 p s)) j).snd
noncomputable def e18_0_52 (p : P18_0) (s : S18_0) : (Bool) := e18_0_67 p s
noncomputable def e18_0_53 (p : P18_0) (s : S18_0) : (Prop) := ((∀ (i:Nat), scpL (0:Nat) ((fun (j:Nat) => [SV.int IntKind.i64 (p.F0_0 j), SV.int IntKind.u64 (p.F0_1 j), SV.int IntKind.u64 (p.F0_2 j)]) i) = true) ∧ ∀ (i:Nat), scpL (0:Nat) ((fun (j:Nat) => [SV.int IntKind.u64 (s.F3_0 j), SV.int IntKind.u64 (s.F3_1 j)]) i) = true) ∧ (∀ (i:Nat), i < p.N0 → (fun (j:Nat) => [SV.int IntKind.i64 (p.F0_0 j), SV.int IntKind.u64 (p.F0_1 j), SV.int IntKind.u64 (p.F0_2 j)]) i = elC (fun (j:Nat) => [SV.int IntKind.i64 (p.F0_0 j), SV.int IntKind.u64 (p.F0_1 j), SV.int IntKind.u64 (p.F0_2 j)]) (0:Nat) [Ck.int IntKind.i64, Ck.int IntKind.u64, Ck.int IntKind.u64] i) ∧ ∀ (i:Nat), i < s.N3 → (fun (j:Nat) => [SV.int IntKind.u64 (s.F3_0 j), SV.int IntKind.u64 (s.F3_1 j)]) i = elC (fun (j:Nat) => [SV.int IntKind.u64 (s.F3_0 j), SV.int IntKind.u64 (s.F3_1 j)]) (0:Nat) [Ck.int IntKind.u64, Ck.int IntKind.u64] i
noncomputable def e18_0_54 (p : P18_0) (s : S18_0) : (Bool) := e18_0_68 p s
noncomputable def e18_0_55 (p : P18_0) (s : S18_0) : (Prop) := ((∀ (i:Nat), scpL (0:Nat) ((fun (j:Nat) => [SV.int IntKind.i64 (p.F0_0 j), SV.int IntKind.u64 (p.F0_1 j), SV.int IntKind.u64 (p.F0_2 j)]) i) = true) ∧ ∀ (i:Nat), scpL (0:Nat) ((fun (j:Nat) => [SV.int IntKind.u64 (gP (clR p.xh2_0 (pl s.F3_0 s.F3_1 s.n7_1) (e18_0_61 p s) (e18_0_62 p s)) j).fst, SV.int IntKind.u64 (gP (clR p.xh2_0 (pl s.F3_0 s.F3_1 s.n7_1) (e18_0_61 p s) (e18_0_62 p s)) j).snd]) i) = true) ∧ (∀ (i:Nat), i < p.N0 → (fun (j:Nat) => [SV.int IntKind.i64 (p.F0_0 j), SV.int IntKind.u64 (p.F0_1 j), SV.int IntKind.u64 (p.F0_2 j)]) i = elC (fun (j:Nat) => [SV.int IntKind.i64 (p.F0_0 j), SV.int IntKind.u64 (p.F0_1 j), SV.int IntKind.u64 (p.F0_2 j)]) (0:Nat) [Ck.int IntKind.i64, Ck.int IntKind.u64, Ck.int IntKind.u64] i) ∧ ∀ (i:Nat), i < e18_0_69 p s → (fun (j:Nat) => [SV.int IntKind.u64 (gP (clR p.xh2_0 (pl s.F3_0 s.F3_1 s.n7_1) (e18_0_61 p s) (e18_0_62 p s)) j).fst, SV.int IntKind.u64 (gP (clR p.xh2_0 (pl s.F3_0 s.F3_1 s.n7_1) (e18_0_61 p s) (e18_0_62 p s)) j).snd]) i = elC (fun (j:Nat) => [SV.int IntKind.u64 (gP (clR p.xh2_0 (pl s.F3_0 s.F3_1 s.n7_1) (e18_0_61 p s) (e18_0_62 p s)) j).fst, SV.int IntKind.u64 (gP (clR p.xh2_0 (pl s.F3_0 s.F3_1 s.n7_1) (e18_0_61 p s) (e18_0_62 p s)) j).snd]) (0:Nat) [Ck.int IntKind.u64, Ck.int IntKind.u64] i
noncomputable def e18_0_56 (p : P18_0) (s : S18_0) : (Nat → Int) := fun (j:Nat) => (gP (clR p.xh2_0 (pl s.F3_0 s.F3_1 s.n7_1) (e18_0_61 p s) (e18_0_62 p s)) j).fst
noncomputable def e18_0_57 (p : P18_0) (s : S18_0) : (Nat → Int) := fun (j:Nat) => (gP (clR p.xh2_0 (pl s.F3_0 s.F3_1 s.n7_1) (e18_0_61 p s) (e18_0_62 p s)) j).snd
noncomputable def e18_0_58 (p : P18_0) (s : S18_0) : (Bool) := e18_0_71 p s
theorem n_e18_0_1 (p : P18_0) (s : S18_0) : e18_0_1 p s := by
  unfold e18_0_1
  (repeat' first | intro _ | apply And.intro) <;> first | rfl | exact absurd (by assumption) (Nat.not_lt_zero _) | exact scpL_rowSet (by rfl) (by rfl) | exact scpL_rowEl (by kernel_rfl) _ | omega | decide
theorem n_e18_0_4 (p : P18_0) (s : S18_0) : e18_0_4 p s := by
  unfold e18_0_4
  (repeat' first | intro _ | apply And.intro) <;> first | rfl | exact absurd (by assumption) (Nat.not_lt_zero _) | exact scpL_rowSet (by rfl) (by rfl) | exact scpL_rowEl (by kernel_rfl) _ | omega | decide
theorem n_e18_0_5 (p : P18_0) (s : S18_0) : e18_0_5 p s := by
  unfold e18_0_5
  (repeat' first | intro _ | apply And.intro) <;> first | rfl | exact absurd (by assumption) (Nat.not_lt_zero _) | exact scpL_rowSet (by rfl) (by rfl) | exact scpL_rowEl (by kernel_rfl) _ | omega | decide
theorem n_e18_0_7 (p : P18_0) (s : S18_0) : e18_0_7 p s := by
  unfold e18_0_7
  (repeat' first | intro _ | apply And.intro) <;> first | rfl | exact absurd (by assumption) (Nat.not_lt_zero _) | exact scpL_rowSet (by rfl) (by rfl) | exact scpL_rowEl (by kernel_rfl) _ | omega | decide
theorem n_e18_0_10 (p : P18_0) (s : S18_0) : e18_0_10 p s := by
  unfold e18_0_10
  (repeat' first | intro _ | apply And.intro) <;> first | rfl | exact absurd (by assumption) (Nat.not_lt_zero _) | exact scpL_rowSet (by rfl) (by rfl) | exact scpL_rowEl (by kernel_rfl) _ | omega | decide
theorem n_e18_0_16 (p : P18_0) (s : S18_0) : e18_0_16 p s := by
  unfold e18_0_16
  (repeat' first | intro _ | apply And.intro) <;> first | rfl | exact absurd (by assumption) (Nat.not_lt_zero _) | exact scpL_rowSet (by rfl) (by rfl) | exact scpL_rowEl (by kernel_rfl) _ | omega | decide
theorem n_e18_0_17 (p : P18_0) (s : S18_0) : e18_0_17 p s := by
  unfold e18_0_17
  (repeat' first | intro _ | apply And.intro) <;> first | rfl | exact absurd (by assumption) (Nat.not_lt_zero _) | exact scpL_rowSet (by rfl) (by rfl) | exact scpL_rowEl (by kernel_rfl) _ | omega | decide
theorem n_e18_0_20 (p : P18_0) (s : S18_0) : e18_0_20 p s := by
  unfold e18_0_20
  (repeat' first | intro _ | apply And.intro) <;> first | rfl | exact absurd (by assumption) (Nat.not_lt_zero _) | exact scpL_rowSet (by rfl) (by rfl) | exact scpL_rowEl (by kernel_rfl) _ | omega | decide
theorem n_e18_0_21 (p : P18_0) (s : S18_0) : e18_0_21 p s := by
  unfold e18_0_21
  (repeat' first | intro _ | apply And.intro) <;> first | rfl | exact absurd (by assumption) (Nat.not_lt_zero _) | exact scpL_rowSet (by rfl) (by rfl) | exact scpL_rowEl (by kernel_rfl) _ | omega | decide
theorem n_e18_0_23 (p : P18_0) (s : S18_0) : e18_0_23 p s := by
  unfold e18_0_23
  (repeat' first | intro _ | apply And.intro) <;> first | rfl | exact absurd (by assumption) (Nat.not_lt_zero _) | exact scpL_rowSet (by rfl) (by rfl) | exact scpL_rowEl (by kernel_rfl) _ | omega | decide
theorem n_e18_0_26 (p : P18_0) (s : S18_0) : e18_0_26 p s := by
  unfold e18_0_26
  (repeat' first | intro _ | apply And.intro) <;> first | rfl | exact absurd (by assumption) (Nat.not_lt_zero _) | exact scpL_rowSet (by rfl) (by rfl) | exact scpL_rowEl (by kernel_rfl) _ | omega | decide
theorem n_e18_0_31 (p : P18_0) (s : S18_0) : e18_0_31 p s := by
  unfold e18_0_31
  (repeat' first | intro _ | apply And.intro) <;> first | rfl | exact absurd (by assumption) (Nat.not_lt_zero _) | exact scpL_rowSet (by rfl) (by rfl) | exact scpL_rowEl (by kernel_rfl) _ | omega | decide
theorem n_e18_0_32 (p : P18_0) (s : S18_0) : e18_0_32 p s := by
  unfold e18_0_32
  (repeat' first | intro _ | apply And.intro) <;> first | rfl | exact absurd (by assumption) (Nat.not_lt_zero _) | exact scpL_rowSet (by rfl) (by rfl) | exact scpL_rowEl (by kernel_rfl) _ | omega | decide
theorem n_e18_0_37 (p : P18_0) (s : S18_0) : e18_0_37 p s := by
  unfold e18_0_37
  (repeat' first | intro _ | apply And.intro) <;> first | rfl | exact absurd (by assumption) (Nat.not_lt_zero _) | exact scpL_rowSet (by rfl) (by rfl) | exact scpL_rowEl (by kernel_rfl) _ | omega | decide
theorem n_e18_0_40 (p : P18_0) (s : S18_0) : e18_0_40 p s := by
  unfold e18_0_40
  (repeat' first | intro _ | apply And.intro) <;> first | rfl | exact absurd (by assumption) (Nat.not_lt_zero _) | exact scpL_rowSet (by rfl) (by rfl) | exact scpL_rowEl (by kernel_rfl) _ | omega | decide
theorem n_e18_0_41 (p : P18_0) (s : S18_0) : e18_0_41 p s := by
  unfold e18_0_41
  (repeat' first | intro _ | apply And.intro) <;> first | rfl | exact absurd (by assumption) (Nat.not_lt_zero _) | exact scpL_rowSet (by rfl) (by rfl) | exact scpL_rowEl (by kernel_rfl) _ | omega | decide
theorem n_e18_0_44 (p : P18_0) (s : S18_0) : e18_0_44 p s := by
  unfold e18_0_44
  (repeat' first | intro _ | apply And.intro) <;> first | rfl | exact absurd (by assumption) (Nat.not_lt_zero _) | exact scpL_rowSet (by rfl) (by rfl) | exact scpL_rowEl (by kernel_rfl) _ | omega | decide
theorem n_e18_0_45 (p : P18_0) (s : S18_0) : e18_0_45 p s := by
  unfold e18_0_45
  (repeat' first | intro _ | apply And.intro) <;> first | rfl | exact absurd (by assumption) (Nat.not_lt_zero _) | exact scpL_rowSet (by rfl) (by rfl) | exact scpL_rowEl (by kernel_rfl) _ | omega | decide
theorem n_e18_0_48 (p : P18_0) (s : S18_0) : e18_0_48 p s := by
  unfold e18_0_48
  (repeat' first | intro _ | apply And.intro) <;> first | rfl | exact absurd (by assumption) (Nat.not_lt_zero _) | exact scpL_rowSet (by rfl) (by rfl) | exact scpL_rowEl (by kernel_rfl) _ | omega | decide
theorem n_e18_0_53 (p : P18_0) (s : S18_0) : e18_0_53 p s := by
  unfold e18_0_53
  (repeat' first | intro _ | apply And.intro) <;> first | rfl | exact absurd (by assumption) (Nat.not_lt_zero _) | exact scpL_rowSet (by rfl) (by rfl) | exact scpL_rowEl (by kernel_rfl) _ | omega | decide
theorem n_e18_0_55 (p : P18_0) (s : S18_0) : e18_0_55 p s := by
  unfold e18_0_55
  (repeat' first | intro _ | apply And.intro) <;> first | rfl | exact absurd (by assumption) (Nat.not_lt_zero _) | exact scpL_rowSet (by rfl) (by rfl) | exact scpL_rowEl (by kernel_rfl) _ | omega | decide
noncomputable def rf18_0 (p : P18_0) (s : S18_0) : Tr (Rs th.R S18_0) := (Tr.ite (e18_0_0 p s) (Tr.need (e18_0_1 p s) (Tr.leaf (Rs.out (Ex.exit (0:Nat)) [none, none, none, none, some (SV.bool (p.b4)), none, none, none, none, none, none, none, none, none, none, none, none, none, none, none, none, none, none, none, none, none, none, none, none, none, none, none, none, none, none, none, none, none, none, none, none, none, none, none, none, none, none, none, none, none, none, none, none, none, none, none, none, none, none, none, none, none, none, none, none, none, none, none, none, none, none, none, none, none, none, none, none, none, none, none, none, none, none, none, none, none, none, none, none, none, none, none, none, none, none, none, none, none, none, none, none, none, none, none, none, none, none, none, none, none, none, none, none, none, none, none, none, none, none, none, none, none, none, none, none] [(HO.ro (108:Nat) (3:Nat) (p.N0) (fun j => [SV.int .i64 (p.F0_0 j), SV.int .u64 (p.F0_1 j), SV.int .u64 (p.F0_2 j)]) (p.O0)), HO.gone, (HO.cells (126:Nat) [SV.int .u64 (p.xh2_0), (SV.slc (3) (2:Nat) (0:Nat) (s.n7_1))]), (HO.row (195:Nat) (2:Nat) (s.N3) (fun j => [SV.int .u64 (s.F3_0 j), SV.int .u64 (s.F3_1 j)])), HO.res (s.R4)]))) (Tr.need (e18_0_2 p s) (Tr.need (e18_0_3 p s) (Tr.need (e18_0_4 p s) (Tr.need (e18_0_5 p s) (Tr.need (e18_0_6 p s) (Tr.need (e18_0_7 p s) (Tr.need (e18_0_8 p s) (Tr.ite (e18_0_9 p s) (Tr.need (e18_0_10 p s) (Tr.leaf (Rs.out (Ex.ret) [none, none, none, none, some (SV.bool (false)), none, none, none, none, none, none, none, none, none, none, none, none, none, none, none, none, none, none, none, none, none, none, none, none, none, none, none, none, none, none, none, none, none, none, none, none, none, none, none, none, none, none, none, none, none, none, none, none, none, none, none, none, none, none, none, none, none, none, none, none, none, none, none, none, none, none, none, none, none, none, none, none, none, none, none, none, none, none, none, none, none, none, none, none, none, none, none, none, none, none, none, none, none, none, none, none, none, none, none, none, none, none, none, none, none, none, none, none, none, none, none, none, none, none, none, none, none, none, none, none] [(HO.ro (108:Nat) (3:Nat) (p.N0) (fun j => [SV.int .i64 (p.F0_0 j), SV.int .u64 (p.F0_1 j), SV.int .u64 (p.F0_2 j)]) (p.O0)), HO.gone, (HO.cells (126:Nat) [SV.int .u64 (p.xh2_0), (SV.slc (3) (2:Nat) (0:Nat) (e18_0_11 p s))]), (HO.row (195:Nat) (2:Nat) (e18_0_11 p s) (fun j => [SV.int .u64 (e18_0_12 p s j), SV.int .u64 (e18_0_13 p s j)])), HO.res (e18_0_14 p s)]))) (Tr.need (e18_0_15 p s) (Tr.need (e18_0_16 p s) (Tr.need (e18_0_17 p s) (Tr.need (e18_0_18 p s) (Tr.need (e18_0_16 p s) (Tr.ite (e18_0_19 p s) (Tr.need (e18_0_1 p s) (Tr.leaf (Rs.out (Ex.ret) [none, none, none, none, some (SV.bool (false)), none, none, none, none, none, none, none, none, none, none, none, none, none, none, none, none, none, none, none, none, none, none, none, none, none, none, none, none, none, none, none, none, none, none, none, none, none, none, none, none, none, none, none, none, none, none, none, none, none, none, none, none, none, none, none, none, none, none, none, none, none, none, none, none, none, none, none, none, none, none, none, none, none, none, none, none, none, none, none, none, none, none, none, none, none, none, none, none, none, none, none, none, none, none, none, none, none, none, none, none, none, none, none, none, none, none, none, none, none, none, none, none, none, none, none, none, none, none, none, none] [(HO.ro (108:Nat) (3:Nat) (p.N0) (fun j => [SV.int .i64 (p.F0_0 j), SV.int .u64 (p.F0_1 j), SV.int .u64 (p.F0_2 j)]) (p.O0)), HO.gone, (HO.cells (126:Nat) [SV.int .u64 (p.xh2_0), (SV.slc (3) (2:Nat) (0:Nat) (s.n7_1))]), (HO.row (195:Nat) (2:Nat) (s.N3) (fun j => [SV.int .u64 (s.F3_0 j), SV.int .u64 (s.F3_1 j)])), HO.res (s.R4)]))) (Tr.need (e18_0_20 p s) (Tr.need (e18_0_21 p s) (Tr.need (e18_0_22 p s) (Tr.need (e18_0_23 p s) (Tr.need (e18_0_24 p s) (Tr.ite (e18_0_25 p s) (Tr.need (e18_0_26 p s) (Tr.leaf (Rs.out (Ex.ret) [none, none, none, none, some (SV.bool (false)), none, none, none, none, none, none, none, none, none, none, none, none, none, none, none, none, none, none, none, none, none, none, none, none, none, none, none, none, none, none, none, none, none, none, none, none, none, none, none, none, none, none, none, none, none, none, none, none, none, none, none, none, none, none, none, none, none, none, none, none, none, none, none, none, none, none, none, none, none, none, none, none, none, none, none, none, none, none, none, none, none, none, none, none, none, none, none, none, none, none, none, none, none, none, none, none, none, none, none, none, none, none, none, none, none, none, none, none, none, none, none, none, none, none, none, none, none, none, none, none] [(HO.ro (108:Nat) (3:Nat) (p.N0) (fun j => [SV.int .i64 (p.F0_0 j), SV.int .u64 (p.F0_1 j), SV.int .u64 (p.F0_2 j)]) (p.O0)), HO.gone, (HO.cells (126:Nat) [SV.int .u64 (p.xh2_0), (SV.slc (3) (2:Nat) (0:Nat) (e18_0_27 p s))]), (HO.row (195:Nat) (2:Nat) (e18_0_27 p s) (fun j => [SV.int .u64 (e18_0_28 p s j), SV.int .u64 (e18_0_29 p s j)])), HO.res (e18_0_30 p s)]))) (Tr.need (e18_0_31 p s) (Tr.need (e18_0_7 p s) (Tr.need (e18_0_32 p s) (Tr.need (e18_0_33 p s) (Tr.need (e18_0_7 p s) (Tr.ite (e18_0_34 p s) (Tr.need (e18_0_10 p s) (Tr.leaf (Rs.out (Ex.ret) [none, none, none, none, some (SV.bool (false)), none, none, none, none, none, none, none, none, none, none, none, none, none, none, none, none, none, none, none, none, none, none, none, none, none, none, none, none, none, none, none, none, none, none, none, none, none, none, none, none, none, none, none, none, none, none, none, none, none, none, none, none, none, none, none, none, none, none, none, none, none, none, none, none, none, none, none, none, none, none, none, none, none, none, none, none, none, none, none, none, none, none, none, none, none, none, none, none, none, none, none, none, none, none, none, none, none, none, none, none, none, none, none, none, none, none, none, none, none, none, none, none, none, none, none, none, none, none, none, none] [(HO.ro (108:Nat) (3:Nat) (p.N0) (fun j => [SV.int .i64 (p.F0_0 j), SV.int .u64 (p.F0_1 j), SV.int .u64 (p.F0_2 j)]) (p.O0)), HO.gone, (HO.cells (126:Nat) [SV.int .u64 (p.xh2_0), (SV.slc (3) (2:Nat) (0:Nat) (e18_0_11 p s))]), (HO.row (195:Nat) (2:Nat) (e18_0_11 p s) (fun j => [SV.int .u64 (e18_0_12 p s j), SV.int .u64 (e18_0_13 p s j)])), HO.res (e18_0_14 p s)]))) (Tr.need (e18_0_16 p s) (Tr.need (e18_0_17 p s) (Tr.need (e18_0_35 p s) (Tr.need (e18_0_16 p s) (Tr.ite (e18_0_36 p s) (Tr.need (e18_0_1 p s) (Tr.leaf (Rs.out (Ex.ret) [none, none, none, none, some (SV.bool (false)), none, none, none, none, none, none, none, none, none, none, none, none, none, none, none, none, none, none, none, none, none, none, none, none, none, none, none, none, none, none, none, none, none, none, none, none, none, none, none, none, none, none, none, none, none, none, none, none, none, none, none, none, none, none, none, none, none, none, none, none, none, none, none, none, none, none, none, none, none, none, none, none, none, none, none, none, none, none, none, none, none, none, none, none, none, none, none, none, none, none, none, none, none, none, none, none, none, none, none, none, none, none, none, none, none, none, none, none, none, none, none, none, none, none, none, none, none, none, none, none] [(HO.ro (108:Nat) (3:Nat) (p.N0) (fun j => [SV.int .i64 (p.F0_0 j), SV.int .u64 (p.F0_1 j), SV.int .u64 (p.F0_2 j)]) (p.O0)), HO.gone, (HO.cells (126:Nat) [SV.int .u64 (p.xh2_0), (SV.slc (3) (2:Nat) (0:Nat) (s.n7_1))]), (HO.row (195:Nat) (2:Nat) (s.N3) (fun j => [SV.int .u64 (s.F3_0 j), SV.int .u64 (s.F3_1 j)])), HO.res (s.R4)]))) (Tr.need (e18_0_23 p s) (Tr.need (e18_0_37 p s) (Tr.need (e18_0_38 p s) (Tr.need (e18_0_23 p s) (Tr.ite (e18_0_39 p s) (Tr.need (e18_0_26 p s) (Tr.leaf (Rs.out (Ex.ret) [none, none, none, none, some (SV.bool (false)), none, none, none, none, none, none, none, none, none, none, none, none, none, none, none, none, none, none, none, none, none, none, none, none, none, none, none, none, none, none, none, none, none, none, none, none, none, none, none, none, none, none, none, none, none, none, none, none, none, none, none, none, none, none, none, none, none, none, none, none, none, none, none, none, none, none, none, none, none, none, none, none, none, none, none, none, none, none, none, none, none, none, none, none, none, none, none, none, none, none, none, none, none, none, none, none, none, none, none, none, none, none, none, none, none, none, none, none, none, none, none, none, none, none, none, none, none, none, none, none] [(HO.ro (108:Nat) (3:Nat) (p.N0) (fun j => [SV.int .i64 (p.F0_0 j), SV.int .u64 (p.F0_1 j), SV.int .u64 (p.F0_2 j)]) (p.O0)), HO.gone, (HO.cells (126:Nat) [SV.int .u64 (p.xh2_0), (SV.slc (3) (2:Nat) (0:Nat) (e18_0_27 p s))]), (HO.row (195:Nat) (2:Nat) (e18_0_27 p s) (fun j => [SV.int .u64 (e18_0_28 p s j), SV.int .u64 (e18_0_29 p s j)])), HO.res (e18_0_30 p s)]))) (Tr.need (e18_0_40 p s) (Tr.need (e18_0_41 p s) (Tr.need (e18_0_42 p s) (Tr.need (e18_0_40 p s) (Tr.ite (e18_0_43 p s) (Tr.need (e18_0_1 p s) (Tr.leaf (Rs.out (Ex.ret) [none, none, none, none, some (SV.bool (false)), none, none, none, none, none, none, none, none, none, none, none, none, none, none, none, none, none, none, none, none, none, none, none, none, none, none, none, none, none, none, none, none, none, none, none, none, none, none, none, none, none, none, none, none, none, none, none, none, none, none, none, none, none, none, none, none, none, none, none, none, none, none, none, none, none, none, none, none, none, none, none, none, none, none, none, none, none, none, none, none, none, none, none, none, none, none, none, none, none, none, none, none, none, none, none, none, none, none, none, none, none, none, none, none, none, none, none, none, none, none, none, none, none, none, none, none, none, none, none, none] [(HO.ro (108:Nat) (3:Nat) (p.N0) (fun j => [SV.int .i64 (p.F0_0 j), SV.int .u64 (p.F0_1 j), SV.int .u64 (p.F0_2 j)]) (p.O0)), HO.gone, (HO.cells (126:Nat) [SV.int .u64 (p.xh2_0), (SV.slc (3) (2:Nat) (0:Nat) (s.n7_1))]), (HO.row (195:Nat) (2:Nat) (s.N3) (fun j => [SV.int .u64 (s.F3_0 j), SV.int .u64 (s.F3_1 j)])), HO.res (s.R4)]))) (Tr.need (e18_0_44 p s) (Tr.need (e18_0_45 p s) (Tr.need (e18_0_46 p s) (Tr.need (e18_0_44 p s) (Tr.ite (e18_0_43 p s) (Tr.need (e18_0_1 p s) (Tr.leaf (Rs.out (Ex.ret) [none, none, none, none, some (SV.bool (false)), none, none, none, none, none, none, none, none, none, none, none, none, none, none, none, none, none, none, none, none, none, none, none, none, none, none, none, none, none, none, none, none, none, none, none, none, none, none, none, none, none, none, none, none, none, none, none, none, none, none, none, none, none, none, none, none, none, none, none, none, none, none, none, none, none, none, none, none, none, none, none, none, none, none, none, none, none, none, none, none, none, none, none, none, none, none, none, none, none, none, none, none, none, none, none, none, none, none, none, none, none, none, none, none, none, none, none, none, none, none, none, none, none, none, none, none, none, none, none, none] [(HO.ro (108:Nat) (3:Nat) (p.N0) (fun j => [SV.int .i64 (p.F0_0 j), SV.int .u64 (p.F0_1 j), SV.int .u64 (p.F0_2 j)]) (p.O0)), HO.gone, (HO.cells (126:Nat) [SV.int .u64 (p.xh2_0), (SV.slc (3) (2:Nat) (0:Nat) (s.n7_1))]), (HO.row (195:Nat) (2:Nat) (s.N3) (fun j => [SV.int .u64 (s.F3_0 j), SV.int .u64 (s.F3_1 j)])), HO.res (s.R4)]))) (Tr.ite (e18_0_47 p s) (Tr.need (e18_0_48 p s) (Tr.leaf (Rs.on (S18_0.mk ((e18_0_49 p s)) ((e18_0_11 p s)) ((e18_0_11 p s)) ((e18_0_50 p s)) ((e18_0_51 p s)) ((e18_0_14 p s)))))) (Tr.ite (e18_0_52 p s) (Tr.need (e18_0_53 p s) (Tr.leaf (Rs.on (S18_0.mk ((e18_0_49 p s)) (s.n7_1) (s.N3) (s.F3_0) (s.F3_1) (s.R4))))) (Tr.ite (e18_0_54 p s) (Tr.need (e18_0_55 p s) (Tr.leaf (Rs.on (S18_0.mk ((e18_0_49 p s)) ((e18_0_27 p s)) ((e18_0_27 p s)) ((e18_0_56 p s)) ((e18_0_57 p s)) ((e18_0_30 p s)))))) (Tr.ite (e18_0_58 p s) (Tr.need (e18_0_53 p s) (Tr.leaf (Rs.on (S18_0.mk ((e18_0_49 p s)) (s.n7_1) (s.N3) (s.F3_0) (s.F3_1) (s.R4))))) (Tr.need (e18_0_53 p s) (Tr.leaf (Rs.on (S18_0.mk ((e18_0_49 p s)) (s.n7_1) (s.N3) (s.F3_0) (s.F3_1) (s.R4))))))))))))))))))))))))))))))))))))))))))))))))))))))))
noncomputable def r18_0 (p : P18_0) (s : S18_0) : Tr (Rs th.R S18_0) := (Tr.ite (e18_0_0 p s) (Tr.leaf (Rs.out (Ex.exit (0:Nat)) [none, none, none, none, some (SV.bool (p.b4)), none, none, none, none, none, none, none, none, none, none, none, none, none, none, none, none, none, none, none, none, none, none, none, none, none, none, none, none, none, none, none, none, none, none, none, none, none, none, none, none, none, none, none, none, none, none, none, none, none, none, none, none, none, none, none, none, none, none, none, none, none, none, none, none, none, none, none, none, none, none, none, none, none, none, none, none, none, none, none, none, none, none, none, none, none, none, none, none, none, none, none, none, none, none, none, none, none, none, none, none, none, none, none, none, none, none, none, none, none, none, none, none, none, none, none, none, none, none, none, none] [(HO.ro (108:Nat) (3:Nat) (p.N0) (fun j => [SV.int .i64 (p.F0_0 j), SV.int .u64 (p.F0_1 j), SV.int .u64 (p.F0_2 j)]) (p.O0)), HO.gone, (HO.cells (126:Nat) [SV.int .u64 (p.xh2_0), (SV.slc (3) (2:Nat) (0:Nat) (s.n7_1))]), (HO.row (195:Nat) (2:Nat) (s.N3) (fun j => [SV.int .u64 (s.F3_0 j), SV.int .u64 (s.F3_1 j)])), HO.res (s.R4)])) (Tr.need (e18_0_2 p s) (Tr.need (e18_0_3 p s) (Tr.need (e18_0_6 p s) (Tr.need (e18_0_8 p s) (Tr.ite (e18_0_9 p s) (Tr.leaf (Rs.out (Ex.ret) [none, none, none, none, some (SV.bool (false)), none, none, none, none, none, none, none, none, none, none, none, none, none, none, none, none, none, none, none, none, none, none, none, none, none, none, none, none, none, none, none, none, none, none, none, none, none, none, none, none, none, none, none, none, none, none, none, none, none, none, none, none, none, none, none, none, none, none, none, none, none, none, none, none, none, none, none, none, none, none, none, none, none, none, none, none, none, none, none, none, none, none, none, none, none, none, none, none, none, none, none, none, none, none, none, none, none, none, none, none, none, none, none, none, none, none, none, none, none, none, none, none, none, none, none, none, none, none, none, none] [(HO.ro (108:Nat) (3:Nat) (p.N0) (fun j => [SV.int .i64 (p.F0_0 j), SV.int .u64 (p.F0_1 j), SV.int .u64 (p.F0_2 j)]) (p.O0)), HO.gone, (HO.cells (126:Nat) [SV.int .u64 (p.xh2_0), (SV.slc (3) (2:Nat) (0:Nat) (e18_0_11 p s))]), (HO.row (195:Nat) (2:Nat) (e18_0_11 p s) (fun j => [SV.int .u64 (e18_0_12 p s j), SV.int .u64 (e18_0_13 p s j)])), HO.res (e18_0_14 p s)])) (Tr.need (e18_0_15 p s) (Tr.need (e18_0_18 p s) (Tr.ite (e18_0_19 p s) (Tr.leaf (Rs.out (Ex.ret) [none, none, none, none, some (SV.bool (false)), none, none, none, none, none, none, none, none, none, none, none, none, none, none, none, none, none, none, none, none, none, none, none, none, none, none, none, none, none, none, none, none, none, none, none, none, none, none, none, none, none, none, none, none, none, none, none, none, none, none, none, none, none, none, none, none, none, none, none, none, none, none, none, none, none, none, none, none, none, none, none, none, none, none, none, none, none, none, none, none, none, none, none, none, none, none, none, none, none, none, none, none, none, none, none, none, none, none, none, none, none, none, none, none, none, none, none, none, none, none, none, none, none, none, none, none, none, none, none, none] [(HO.ro (108:Nat) (3:Nat) (p.N0) (fun j => [SV.int .i64 (p.F0_0 j), SV.int .u64 (p.F0_1 j), SV.int .u64 (p.F0_2 j)]) (p.O0)), HO.gone, (HO.cells (126:Nat) [SV.int .u64 (p.xh2_0), (SV.slc (3) (2:Nat) (0:Nat) (s.n7_1))]), (HO.row (195:Nat) (2:Nat) (s.N3) (fun j => [SV.int .u64 (s.F3_0 j), SV.int .u64 (s.F3_1 j)])), HO.res (s.R4)])) (Tr.need (e18_0_22 p s) (Tr.need (e18_0_24 p s) (Tr.ite (e18_0_25 p s) (Tr.leaf (Rs.out (Ex.ret) [none, none, none, none, some (SV.bool (false)), none, none, none, none, none, none, none, none, none, none, none, none, none, none, none, none, none, none, none, none, none, none, none, none, none, none, none, none, none, none, none, none, none, none, none, none, none, none, none, none, none, none, none, none, none, none, none, none, none, none, none, none, none, none, none, none, none, none, none, none, none, none, none, none, none, none, none, none, none, none, none, none, none, none, none, none, none, none, none, none, none, none, none, none, none, none, none, none, none, none, none, none, none, none, none, none, none, none, none, none, none, none, none, none, none, none, none, none, none, none, none, none, none, none, none, none, none, none, none, none] [(HO.ro (108:Nat) (3:Nat) (p.N0) (fun j => [SV.int .i64 (p.F0_0 j), SV.int .u64 (p.F0_1 j), SV.int .u64 (p.F0_2 j)]) (p.O0)), HO.gone, (HO.cells (126:Nat) [SV.int .u64 (p.xh2_0), (SV.slc (3) (2:Nat) (0:Nat) (e18_0_27 p s))]), (HO.row (195:Nat) (2:Nat) (e18_0_27 p s) (fun j => [SV.int .u64 (e18_0_28 p s j), SV.int .u64 (e18_0_29 p s j)])), HO.res (e18_0_30 p s)])) (Tr.need (e18_0_33 p s) (Tr.ite (e18_0_34 p s) (Tr.leaf (Rs.out (Ex.ret) [none, none, none, none, some (SV.bool (false)), none, none, none, none, none, none, none, none, none, none, none, none, none, none, none, none, none, none, none, none, none, none, none, none, none, none, none, none, none, none, none, none, none, none, none, none, none, none, none, none, none, none, none, none, none, none, none, none, none, none, none, none, none, none, none, none, none, none, none, none, none, none, none, none, none, none, none, none, none, none, none, none, none, none, none, none, none, none, none, none, none, none, none, none, none, none, none, none, none, none, none, none, none, none, none, none, none, none, none, none, none, none, none, none, none, none, none, none, none, none, none, none, none, none, none, none, none, none, none, none] [(HO.ro (108:Nat) (3:Nat) (p.N0) (fun j => [SV.int .i64 (p.F0_0 j), SV.int .u64 (p.F0_1 j), SV.int .u64 (p.F0_2 j)]) (p.O0)), HO.gone, (HO.cells (126:Nat) [SV.int .u64 (p.xh2_0), (SV.slc (3) (2:Nat) (0:Nat) (e18_0_11 p s))]), (HO.row (195:Nat) (2:Nat) (e18_0_11 p s) (fun j => [SV.int .u64 (e18_0_12 p s j), SV.int .u64 (e18_0_13 p s j)])), HO.res (e18_0_14 p s)])) (Tr.need (e18_0_35 p s) (Tr.ite (e18_0_36 p s) (Tr.leaf (Rs.out (Ex.ret) [none, none, none, none, some (SV.bool (false)), none, none, none, none, none, none, none, none, none, none, none, none, none, none, none, none, none, none, none, none, none, none, none, none, none, none, none, none, none, none, none, none, none, none, none, none, none, none, none, none, none, none, none, none, none, none, none, none, none, none, none, none, none, none, none, none, none, none, none, none, none, none, none, none, none, none, none, none, none, none, none, none, none, none, none, none, none, none, none, none, none, none, none, none, none, none, none, none, none, none, none, none, none, none, none, none, none, none, none, none, none, none, none, none, none, none, none, none, none, none, none, none, none, none, none, none, none, none, none, none] [(HO.ro (108:Nat) (3:Nat) (p.N0) (fun j => [SV.int .i64 (p.F0_0 j), SV.int .u64 (p.F0_1 j), SV.int .u64 (p.F0_2 j)]) (p.O0)), HO.gone, (HO.cells (126:Nat) [SV.int .u64 (p.xh2_0), (SV.slc (3) (2:Nat) (0:Nat) (s.n7_1))]), (HO.row (195:Nat) (2:Nat) (s.N3) (fun j => [SV.int .u64 (s.F3_0 j), SV.int .u64 (s.F3_1 j)])), HO.res (s.R4)])) (Tr.need (e18_0_38 p s) (Tr.ite (e18_0_39 p s) (Tr.leaf (Rs.out (Ex.ret) [none, none, none, none, some (SV.bool (false)), none, none, none, none, none, none, none, none, none, none, none, none, none, none, none, none, none, none, none, none, none, none, none, none, none, none, none, none, none, none, none, none, none, none, none, none, none, none, none, none, none, none, none, none, none, none, none, none, none, none, none, none, none, none, none, none, none, none, none, none, none, none, none, none, none, none, none, none, none, none, none, none, none, none, none, none, none, none, none, none, none, none, none, none, none, none, none, none, none, none, none, none, none, none, none, none, none, none, none, none, none, none, none, none, none, none, none, none, none, none, none, none, none, none, none, none, none, none, none, none] [(HO.ro (108:Nat) (3:Nat) (p.N0) (fun j => [SV.int .i64 (p.F0_0 j), SV.int .u64 (p.F0_1 j), SV.int .u64 (p.F0_2 j)]) (p.O0)), HO.gone, (HO.cells (126:Nat) [SV.int .u64 (p.xh2_0), (SV.slc (3) (2:Nat) (0:Nat) (e18_0_27 p s))]), (HO.row (195:Nat) (2:Nat) (e18_0_27 p s) (fun j => [SV.int .u64 (e18_0_28 p s j), SV.int .u64 (e18_0_29 p s j)])), HO.res (e18_0_30 p s)])) (Tr.need (e18_0_42 p s) (Tr.ite (e18_0_43 p s) (Tr.leaf (Rs.out (Ex.ret) [none, none, none, none, some (SV.bool (false)), none, none, none, none, none, none, none, none, none, none, none, none, none, none, none, none, none, none, none, none, none, none, none, none, none, none, none, none, none, none, none, none, none, none, none, none, none, none, none, none, none, none, none, none, none, none, none, none, none, none, none, none, none, none, none, none, none, none, none, none, none, none, none, none, none, none, none, none, none, none, none, none, none, none, none, none, none, none, none, none, none, none, none, none, none, none, none, none, none, none, none, none, none, none, none, none, none, none, none, none, none, none, none, none, none, none, none, none, none, none, none, none, none, none, none, none, none, none, none, none] [(HO.ro (108:Nat) (3:Nat) (p.N0) (fun j => [SV.int .i64 (p.F0_0 j), SV.int .u64 (p.F0_1 j), SV.int .u64 (p.F0_2 j)]) (p.O0)), HO.gone, (HO.cells (126:Nat) [SV.int .u64 (p.xh2_0), (SV.slc (3) (2:Nat) (0:Nat) (s.n7_1))]), (HO.row (195:Nat) (2:Nat) (s.N3) (fun j => [SV.int .u64 (s.F3_0 j), SV.int .u64 (s.F3_1 j)])), HO.res (s.R4)])) (Tr.need (e18_0_46 p s) (Tr.ite (e18_0_43 p s) (Tr.leaf (Rs.out (Ex.ret) [none, none, none, none, some (SV.bool (false)), none, none, none, none, none, none, none, none, none, none, none, none, none, none, none, none, none, none, none, none, none, none, none, none, none, none, none, none, none, none, none, none, none, none, none, none, none, none, none, none, none, none, none, none, none, none, none, none, none, none, none, none, none, none, none, none, none, none, none, none, none, none, none, none, none, none, none, none, none, none, none, none, none, none, none, none, none, none, none, none, none, none, none, none, none, none, none, none, none, none, none, none, none, none, none, none, none, none, none, none, none, none, none, none, none, none, none, none, none, none, none, none, none, none, none, none, none, none, none, none] [(HO.ro (108:Nat) (3:Nat) (p.N0) (fun j => [SV.int .i64 (p.F0_0 j), SV.int .u64 (p.F0_1 j), SV.int .u64 (p.F0_2 j)]) (p.O0)), HO.gone, (HO.cells (126:Nat) [SV.int .u64 (p.xh2_0), (SV.slc (3) (2:Nat) (0:Nat) (s.n7_1))]), (HO.row (195:Nat) (2:Nat) (s.N3) (fun j => [SV.int .u64 (s.F3_0 j), SV.int .u64 (s.F3_1 j)])), HO.res (s.R4)])) (Tr.ite (e18_0_47 p s) (Tr.leaf (Rs.on (S18_0.mk ((e18_0_49 p s)) ((e18_0_11 p s)) ((e18_0_11 p s)) ((e18_0_50 p s)) ((e18_0_51 p s)) ((e18_0_14 p s))))) (Tr.ite (e18_0_52 p s) (Tr.leaf (Rs.on (S18_0.mk ((e18_0_49 p s)) (s.n7_1) (s.N3) (s.F3_0) (s.F3_1) (s.R4)))) (Tr.ite (e18_0_54 p s) (Tr.leaf (Rs.on (S18_0.mk ((e18_0_49 p s)) ((e18_0_27 p s)) ((e18_0_27 p s)) ((e18_0_56 p s)) ((e18_0_57 p s)) ((e18_0_30 p s))))) (Tr.ite (e18_0_58 p s) (Tr.leaf (Rs.on (S18_0.mk ((e18_0_49 p s)) (s.n7_1) (s.N3) (s.F3_0) (s.F3_1) (s.R4)))) (Tr.leaf (Rs.on (S18_0.mk ((e18_0_49 p s)) (s.n7_1) (s.N3) (s.F3_0) (s.F3_1) (s.R4))))))))))))))))))))))))))))))
noncomputable def E18_0 : St th.R → Out th := evCode th Try.prog (auto th Try.prog nice18c [] 20) (autoH [] [] [40] [999998] : Hints th) (lpAt Try.prog 18 0)
theorem B18_0 : CodeSound th Try.prog (lpAt Try.prog 18 0) E18_0 := evCode_sound (T := th) (P := Try.prog) (tbl := (auto th Try.prog nice18c [] 20)) (auto_sound (nice := nice18c) (us := []) nok18c 20) (autoH [] [] [40] [999998] : Hints th) _ (LoopsOk_mem (fun _ => rfl) _ fun b hb L hL => by cases hL)
noncomputable def L18_0 : St th.R → Out th := loopL d18_0 ofV18_0 r18_0
theorem h1_18_0 (p : P18_0) (s : S18_0) : bld d18_0.tm (toV18_0 p s) = some (I18_0 p s) := by kernel_rfl
theorem h2_18_0 (l : List (Vl th.R)) (p : P18_0) (s : S18_0) (h : ofV18_0 l = some (p, s)) : l = toV18_0 p s := by
  unfold ofV18_0 at h
  split at h
  · cases h; rfl
  · cases h
theorem h3_18_0 (p : P18_0) (s : S18_0) : cvE d18_0 (E18_0 (I18_0 p s)) = some ((rf18_0 p s).map (Rs.map (toV18_0 p))) := by kernel_rfl
theorem h3g_18_0 (p : P18_0) (s : S18_0) : (rf18_0 p s).get = (r18_0 p s).get := by kernel_rfl
theorem h4_18_0 (p : P18_0) (s s1 : S18_0) : outH d18_0.dirt d18_0.n0 (r18_0 p s) = repH (maskH d18_0.dirt 0 d18_0.n0 (I18_0 p s1).heap) (r18_0 p s) := by kernel_rfl
theorem ls18_0 : CodeSound th Try.prog (.loop (lpAt Try.prog 18 0)) L18_0 := loopL_sound B18_0 d18_0 I18_0 toV18_0 (by kernel_rfl) h1_18_0 h2_18_0
  (fun p s => ⟨(rf18_0 p s).map (Rs.map (toV18_0 p)), h3_18_0 p s, fun h => by
    rw [Tr.map_ok]
    unfold r18_0 at h; unfold rf18_0
    simp only [Tr.ok, n_e18_0_1, n_e18_0_4, n_e18_0_5, n_e18_0_7, n_e18_0_10, n_e18_0_16, n_e18_0_17, n_e18_0_20, n_e18_0_21, n_e18_0_23, n_e18_0_26, n_e18_0_31, n_e18_0_32, n_e18_0_37, n_e18_0_40, n_e18_0_41, n_e18_0_44, n_e18_0_45, n_e18_0_48, n_e18_0_53, n_e18_0_55, true_and, and_true, forall_const, implies_true] at h ⊢
    try exact h, by rw [Tr.map_get, h3g_18_0 p s]⟩) h4_18_0
theorem ok18 : LoopsOk th Try.prog (autoH [(12, L18_0)] [] [40] [999998] : Hints th) (bodyOf Try.prog 18) := autoH_ok (bs := [lpAt Try.prog 18 0]) (by kernel_rfl) fun b hb L hL => by
  simp only [List.mem_cons, List.not_mem_nil, or_false] at hb
  rcases hb with rfl
  · have e : lookL [(12, L18_0)] (firstReg (lpAt Try.prog 18 0)) = some L18_0 := by kernel_rfl
    rw [e] at hL; cases hL
    exact ls18_0
noncomputable def f18_15 (v : V18) : (Bool) := decide ((↑v.L:Int) > (60:Int))
noncomputable def f18_16 (v : V18) : (P18_0) := P18_0.mk false v.L (↑v.L:Int) v.Q v.ob_ v.ok v.oa v.ow v.size
noncomputable def f18_17 (v : V18) : (S18_0) := S18_0.mk (0:Int) (0:Nat) (0:Nat) (colI (fun (j:Nat) => []) (0:Nat)) (colI (fun (j:Nat) => []) (1:Nat)) (newM v.size)
noncomputable def f18_18 (v : V18) : (S18_0) := lastS (r18_0 (f18_16 v)) (f18_17 v)
noncomputable def f18_0 (v : V18) : (Prop) := false = false → f18_15 v = false → (0:Int) ≤ v.size ∧ v.size < (18446744073709551616:Int)
noncomputable def f18_1 (v : V18) : (Prop) := false = false → f18_15 v = false → szB v.size = true → (!f84_1 (V84.mk v.size)) = false → (∀ (i:Nat), i < v.Q → (fun (j:Nat) => [SV.int IntKind.i64 (v.ok j), SV.int IntKind.u64 (v.oa j), SV.int IntKind.u64 (v.ow j)]) i = elC (fun (j:Nat) => [SV.int IntKind.i64 (v.ok j), SV.int IntKind.u64 (v.oa j), SV.int IntKind.u64 (v.ow j)]) (0:Nat) [Ck.int IntKind.i64, Ck.int IntKind.u64, Ck.int IntKind.u64] i) ∧ ∀ (i:Nat), i < (0:Nat) → (fun (j:Nat) => []) i = elC (fun (j:Nat) => []) (0:Nat) [Ck.int IntKind.u64, Ck.int IntKind.u64] i
noncomputable def f18_2 (v : V18) : (Prop) := false = false → f18_15 v = false → szB v.size = true → (!f84_1 (V84.mk v.size)) = false → LT (r18_0 (f18_16 v)) (f18_17 v)
noncomputable def f18_3 (v : V18) : (Bool) := f18_15 v
noncomputable def f18_4 (v : V18) : (Bool) := szB v.size
noncomputable def f18_5 (v : V18) : (Bool) := !f84_1 (V84.mk v.size)
noncomputable def f18_6 (v : V18) : (Bool) := cnd (e18_0_0 (f18_16 v) (f18_18 v)) false (e18_0_9 (f18_16 v) (f18_18 v))
noncomputable def f18_7 (v : V18) : (Bool) := cnd (e18_0_0 (f18_16 v) (f18_18 v)) false (e18_0_19 (f18_16 v) (f18_18 v))
noncomputable def f18_8 (v : V18) : (Bool) := cnd (e18_0_0 (f18_16 v) (f18_18 v)) false (e18_0_25 (f18_16 v) (f18_18 v))
noncomputable def f18_9 (v : V18) : (Bool) := cnd (e18_0_0 (f18_16 v) (f18_18 v)) false (e18_0_34 (f18_16 v) (f18_18 v))
noncomputable def f18_10 (v : V18) : (Bool) := cnd (e18_0_0 (f18_16 v) (f18_18 v)) false (e18_0_36 (f18_16 v) (f18_18 v))
noncomputable def f18_11 (v : V18) : (Bool) := cnd (e18_0_0 (f18_16 v) (f18_18 v)) false (e18_0_39 (f18_16 v) (f18_18 v))
noncomputable def f18_12 (v : V18) : (Bool) := cnd (e18_0_0 (f18_16 v) (f18_18 v)) false (e18_0_43 (f18_16 v) (f18_18 v))
noncomputable def f18_13 (v : V18) : (Bool) := cnd (e18_0_0 (f18_16 v) (f18_18 v)) false true
noncomputable def f18_14 (v : V18) : (Bool) := cnd (!f84_1 (V84.mk v.size)) true false
theorem n_f18_1 (v : V18) : f18_1 v := by
  unfold f18_1
  (repeat' first | intro _ | apply And.intro) <;> first | rfl | exact absurd (by assumption) (Nat.not_lt_zero _) | exact scpL_rowSet (by rfl) (by rfl) | exact scpL_rowEl (by kernel_rfl) _ | omega | decide
noncomputable def ff18 (v : V18) : Tr (Fin th.R) := (Tr.need (f18_0 v) (Tr.need (f18_1 v) (Tr.need (f18_2 v) (Tr.ite (false) (Tr.leaf (SV.bool (false), [(HO.ro (108:Nat) (3:Nat) (v.Q) (fun j => [SV.int .i64 (v.ok j), SV.int .u64 (v.oa j), SV.int .u64 (v.ow j)]) (v.ob_))], List.nil)) (Tr.ite (f18_3 v) (Tr.leaf (SV.bool (true), [(HO.ro (108:Nat) (3:Nat) (v.Q) (fun j => [SV.int .i64 (v.ok j), SV.int .u64 (v.oa j), SV.int .u64 (v.ow j)]) (v.ob_))], List.nil)) (Tr.ite (f18_4 v) (Tr.ite (f18_5 v) (Tr.leaf (SV.bool (false), [(HO.ro (108:Nat) (3:Nat) (v.Q) (fun j => [SV.int .i64 (v.ok j), SV.int .u64 (v.oa j), SV.int .u64 (v.ow j)]) (v.ob_))], List.nil)) (Tr.ite (f18_6 v) (Tr.leaf (SV.bool (false), [(HO.ro (108:Nat) (3:Nat) (v.Q) (fun j => [SV.int .i64 (v.ok j), SV.int .u64 (v.oa j), SV.int .u64 (v.ow j)]) (v.ob_))], List.nil)) (Tr.ite (f18_7 v) (Tr.leaf (SV.bool (false), [(HO.ro (108:Nat) (3:Nat) (v.Q) (fun j => [SV.int .i64 (v.ok j), SV.int .u64 (v.oa j), SV.int .u64 (v.ow j)]) (v.ob_))], List.nil)) (Tr.ite (f18_8 v) (Tr.leaf (SV.bool (false), [(HO.ro (108:Nat) (3:Nat) (v.Q) (fun j => [SV.int .i64 (v.ok j), SV.int .u64 (v.oa j), SV.int .u64 (v.ow j)]) (v.ob_))], List.nil)) (Tr.ite (f18_9 v) (Tr.leaf (SV.bool (false), [(HO.ro (108:Nat) (3:Nat) (v.Q) (fun j => [SV.int .i64 (v.ok j), SV.int .u64 (v.oa j), SV.int .u64 (v.ow j)]) (v.ob_))], List.nil)) (Tr.ite (f18_10 v) (Tr.leaf (SV.bool (false), [(HO.ro (108:Nat) (3:Nat) (v.Q) (fun j => [SV.int .i64 (v.ok j), SV.int .u64 (v.oa j), SV.int .u64 (v.ow j)]) (v.ob_))], List.nil)) (Tr.ite (f18_11 v) (Tr.leaf (SV.bool (false), [(HO.ro (108:Nat) (3:Nat) (v.Q) (fun j => [SV.int .i64 (v.ok j), SV.int .u64 (v.oa j), SV.int .u64 (v.ow j)]) (v.ob_))], List.nil)) (Tr.ite (f18_12 v) (Tr.leaf (SV.bool (false), [(HO.ro (108:Nat) (3:Nat) (v.Q) (fun j => [SV.int .i64 (v.ok j), SV.int .u64 (v.oa j), SV.int .u64 (v.ow j)]) (v.ob_))], List.nil)) (Tr.ite (f18_13 v) (Tr.leaf (SV.bool (false), [(HO.ro (108:Nat) (3:Nat) (v.Q) (fun j => [SV.int .i64 (v.ok j), SV.int .u64 (v.oa j), SV.int .u64 (v.ow j)]) (v.ob_))], List.nil)) (Tr.leaf (SV.bool (true), [(HO.ro (108:Nat) (3:Nat) (v.Q) (fun j => [SV.int .i64 (v.ok j), SV.int .u64 (v.oa j), SV.int .u64 (v.ow j)]) (v.ob_))], List.nil))))))))))) (Tr.leaf (SV.bool (f18_14 v), [(HO.ro (108:Nat) (3:Nat) (v.Q) (fun j => [SV.int .i64 (v.ok j), SV.int .u64 (v.oa j), SV.int .u64 (v.ow j)]) (v.ob_))], List.nil))))))))
noncomputable def f18 (v : V18) : Tr (Fin th.R) := (Tr.need (f18_0 v) (Tr.need (f18_2 v) (Tr.ite (false) (Tr.leaf (SV.bool (false), [(HO.ro (108:Nat) (3:Nat) (v.Q) (fun j => [SV.int .i64 (v.ok j), SV.int .u64 (v.oa j), SV.int .u64 (v.ow j)]) (v.ob_))], [])) (Tr.ite (f18_3 v) (Tr.leaf (SV.bool (true), [(HO.ro (108:Nat) (3:Nat) (v.Q) (fun j => [SV.int .i64 (v.ok j), SV.int .u64 (v.oa j), SV.int .u64 (v.ow j)]) (v.ob_))], [])) (Tr.ite (f18_4 v) (Tr.ite (f18_5 v) (Tr.leaf (SV.bool (false), [(HO.ro (108:Nat) (3:Nat) (v.Q) (fun j => [SV.int .i64 (v.ok j), SV.int .u64 (v.oa j), SV.int .u64 (v.ow j)]) (v.ob_))], [])) (Tr.ite (f18_6 v) (Tr.leaf (SV.bool (false), [(HO.ro (108:Nat) (3:Nat) (v.Q) (fun j => [SV.int .i64 (v.ok j), SV.int .u64 (v.oa j), SV.int .u64 (v.ow j)]) (v.ob_))], [])) (Tr.ite (f18_7 v) (Tr.leaf (SV.bool (false), [(HO.ro (108:Nat) (3:Nat) (v.Q) (fun j => [SV.int .i64 (v.ok j), SV.int .u64 (v.oa j), SV.int .u64 (v.ow j)]) (v.ob_))], [])) (Tr.ite (f18_8 v) (Tr.leaf (SV.bool (false), [(HO.ro (108:Nat) (3:Nat) (v.Q) (fun j => [SV.int .i64 (v.ok j), SV.int .u64 (v.oa j), SV.int .u64 (v.ow j)]) (v.ob_))], [])) (Tr.ite (f18_9 v) (Tr.leaf (SV.bool (false), [(HO.ro (108:Nat) (3:Nat) (v.Q) (fun j => [SV.int .i64 (v.ok j), SV.int .u64 (v.oa j), SV.int .u64 (v.ow j)]) (v.ob_))], [])) (Tr.ite (f18_10 v) (Tr.leaf (SV.bool (false), [(HO.ro (108:Nat) (3:Nat) (v.Q) (fun j => [SV.int .i64 (v.ok j), SV.int .u64 (v.oa j), SV.int .u64 (v.ow j)]) (v.ob_))], [])) (Tr.ite (f18_11 v) (Tr.leaf (SV.bool (false), [(HO.ro (108:Nat) (3:Nat) (v.Q) (fun j => [SV.int .i64 (v.ok j), SV.int .u64 (v.oa j), SV.int .u64 (v.ow j)]) (v.ob_))], [])) (Tr.ite (f18_12 v) (Tr.leaf (SV.bool (false), [(HO.ro (108:Nat) (3:Nat) (v.Q) (fun j => [SV.int .i64 (v.ok j), SV.int .u64 (v.oa j), SV.int .u64 (v.ow j)]) (v.ob_))], [])) (Tr.ite (f18_13 v) (Tr.leaf (SV.bool (false), [(HO.ro (108:Nat) (3:Nat) (v.Q) (fun j => [SV.int .i64 (v.ok j), SV.int .u64 (v.oa j), SV.int .u64 (v.ow j)]) (v.ob_))], [])) (Tr.leaf (SV.bool (true), [(HO.ro (108:Nat) (3:Nat) (v.Q) (fun j => [SV.int .i64 (v.ok j), SV.int .u64 (v.oa j), SV.int .u64 (v.ow j)]) (v.ob_))], []))))))))))) (Tr.leaf (SV.bool (f18_14 v), [(HO.ro (108:Nat) (3:Nat) (v.Q) (fun j => [SV.int .i64 (v.ok j), SV.int .u64 (v.oa j), SV.int .u64 (v.ow j)]) (v.ob_))], [])))))))
noncomputable def C18 : CF th.R := fnC d18 ofV18 (f18 )
theorem q18 (v : V18) : (evFn th Try.prog (auto th Try.prog nice18c [] 20) (autoH [(12, L18_0)] [] [40] [999998] : Hints th) 18) (A18 v) (H18 v) = some (ff18 v) := by kernel_rfl
theorem qg18 (v : V18) : ((ff18 v).map (setD [])).get = (f18 v).get := by kernel_rfl
theorem qd18 (v : V18) : allD 1 [] (ff18 v) = true := by kernel_rfl
theorem s18 : Sound Try.prog th 18 (C18 ) := fnC_sound (evFn_sound' (T := th) (P := Try.prog) (tbl := (auto th Try.prog nice18c [] 20)) (auto_sound (nice := nice18c) (us := []) nok18c 20) (H := (autoH [(12, L18_0)] [] [40] [999998] : Hints th)) (k := 18) (fnLoops ok18)) d18 A18 H18 toV18 (by kernel_rfl) (fun v => by kernel_rfl)
  (fun l v h => by
    unfold ofV18 at h
    split at h
    · cases h; rfl
    · cases h)
  [] (fun v => ⟨ff18 v, q18 v, fun h => by
    unfold f18 at h; unfold ff18
    simp only [Tr.ok, n_f18_1, true_and, and_true, forall_const, implies_true] at h ⊢
    try exact h, qg18 v, qd18 v⟩)
theorem qdd18 (v : V18) : (f18 v).get.2.2 = [] := by
  rw [← qg18, Tr.map_get]; rfl
set_option maxRecDepth 100000
theorem pl_gP (l : List (Int × Int)) : pl (fun j => (gP l j).1) (fun j => (gP l j).2) l.length = l := by
  apply List.ext_getElem?
  intro j
  by_cases hj : j < l.length
  · rw [pl_get hj, List.getElem?_eq_getElem hj]
    have : gP l j = l[j] := by simp [gP, List.getD, hj]
    rw [this]
  · rw [List.getElem?_eq_none (by rw [pl_len]; omega), List.getElem?_eq_none (by omega)]
theorem c_ff (x : Bool) : cnd x false false = false := by cases x <;> rfl
theorem l18_0 {p : P18_0} {L : Nat} {z : Int} (h43 : p.n43 = L) (h44 : p.x44 = L) (hN : p.N0 = L) (hL : L ≤ 60) (hz : p.xh2_0 = z) (hu : ∀ j, j < L → U64 (p.F0_1 j) ∧ U64 (p.F0_2 j)) {s : S18_0} (hs : s.x45 = 0) (hn : s.n7_1 = 0) (h3 : s.N3 = 0) (hM : MemOk s.R4) (hsz : szM s.R4 = z) (hw : wsM s.R4 = []) :
    LT (r18_0 p) s ∧ e18_0_0 p (lastS (r18_0 p) s) = true := by
  refine LT.post (fun t : S18_0 => ∃ i : Nat, t.x45 = i ∧ i ≤ L ∧ t.N3 = t.n7_1 ∧ t.n7_1 ≤ i ∧ MemOk t.R4 ∧ szM t.R4 = z ∧ pl t.F3_0 t.F3_1 t.n7_1 = wsM t.R4) (fun t : S18_0 => e18_0_0 p t = true) (fun t : S18_0 => L - t.x45.toNat) ?_
    ⟨0, hs, Nat.zero_le _, by rw [h3, hn], by rw [hn]; exact Nat.le_refl _, hM, hsz, by rw [hn, hw]; rfl⟩
  rintro ⟨x45, n0, n7, F, G, M⟩ ⟨i, g1, g2, g3, g4, g5, g6, g7⟩
  simp only at g1 g3 g4 g5 g6 g7
  subst g1 g3
  by_cases hi : i < L
  · have hd : e18_0_0 p ⟨i, n7, n7, F, G, M⟩ = false := by
      show cnd (decide ((i:Int) < p.x44)) false true = false
      rw [decide_eq_true (by omega)]; rfl
    have e59 : e18_0_59 p ⟨i, n7, n7, F, G, M⟩ = i := by show 0 + (i:Int).toNat = i; omega
    have u := hu i hi
    have e61 : e18_0_61 p ⟨i, n7, n7, F, G, M⟩ = p.F0_1 i := by unfold e18_0_61; rw [e59]
    have e62 : e18_0_62 p ⟨i, n7, n7, F, G, M⟩ = p.F0_2 i := by unfold e18_0_62; rw [e59]
    have w49 : e18_0_49 p ⟨i, n7, n7, F, G, M⟩ = ((i + 1:Nat):Int) := by show IntKind.i64.wrap ((i:Int) + 1) = _; rw [wrap_i64 (by omega) (by omega)]; omega
    generalize p.F0_1 i = A at u e61
    generalize p.F0_2 i = W at u e62
    obtain ⟨uA, uW⟩ := u
    have hhi := g5.hi
    have hlo := g5.lo
    have hzz : Mem.size M = z := g6
    have e65 : wrR p.xh2_0 (pl F G n7) (e18_0_61 p ⟨i, n7, n7, F, G, M⟩) (e18_0_62 p ⟨i, n7, n7, F, G, M⟩) = wsM (wrM M A W) := by
      rw [e61, e62, hz, ← hzz, g7]; exact wrR_ws g5 uA.1 uW
    have e66 : e18_0_66 p ⟨i, n7, n7, F, G, M⟩ = wrM M A W := by unfold e18_0_66; rw [e61, e62]
    have e69 : clR p.xh2_0 (pl F G n7) (e18_0_61 p ⟨i, n7, n7, F, G, M⟩) (e18_0_62 p ⟨i, n7, n7, F, G, M⟩) = wsM (clM M A W) := by
      rw [e61, e62, hz, ← hzz, g7]; exact clR_ws g5 A W
    have e70 : e18_0_70 p ⟨i, n7, n7, F, G, M⟩ = clM M A W := by unfold e18_0_70; rw [e61, e62]
    have hlen : (wsM M).length = n7 := by rw [← g7, pl_len]
    have l1 := ws_wr_len M (a := A) (w := W) uA.1
    have l2 := ws_cl_len g5 A W
    have e64 : e18_0_64 p ⟨i, n7, n7, F, G, M⟩ = false := by
      show (errI (szM M) (e18_0_61 p ⟨i, n7, n7, F, G, M⟩) != errI p.xh2_0 (e18_0_61 p ⟨i, n7, n7, F, G, M⟩)) = false
      rw [g6, hz]; exact bne_self_eq_false _
    have b9 : e18_0_9 p ⟨i, n7, n7, F, G, M⟩ = false := by unfold e18_0_9; rw [e64]; exact c_ff _
    have b19 : e18_0_19 p ⟨i, n7, n7, F, G, M⟩ = false := by
      unfold e18_0_19
      have : (rdM M (e18_0_61 p ⟨i, n7, n7, F, G, M⟩) != cnd (e18_0_63 p ⟨i, n7, n7, F, G, M⟩ != 0) 0 (rdL (pl F G n7) (e18_0_61 p ⟨i, n7, n7, F, G, M⟩))) = false := by
        unfold e18_0_63
        rw [e61, g7, rdL_ws g5, hz]
        have hr : cnd (errI z A != 0) 0 (Mem.W M A) = rdM M A := by
          by_cases he : errI z A = 0
          · rw [he]; rfl
          · rw [show (errI z A != 0) = true from bne_iff_ne.2 he]
            show 0 = Mem.W M A
            refine Decidable.byContradiction fun hne => he ?_
            have := g5.dom A fun e => hne e.symm
            rw [hzz] at this
            exact errI_ok this.2.2 this.2.1
        rw [hr]; exact bne_self_eq_false _
      rw [e64]
      show cnd _ false (cnd _ (cnd false true (rdM M (e18_0_61 p ⟨i, n7, n7, F, G, M⟩) != cnd (e18_0_63 p ⟨i, n7, n7, F, G, M⟩ != 0) 0 (rdL (pl F G n7) (e18_0_61 p ⟨i, n7, n7, F, G, M⟩)))) false) = false
      rw [this]
      cases e18_0_60 p ⟨i, n7, n7, F, G, M⟩ <;> cases e18_0_67 p ⟨i, n7, n7, F, G, M⟩ <;> rfl
    have b25 : e18_0_25 p ⟨i, n7, n7, F, G, M⟩ = false := by
      have : (errC (szM M) (e18_0_61 p ⟨i, n7, n7, F, G, M⟩) (e18_0_62 p ⟨i, n7, n7, F, G, M⟩) != errC p.xh2_0 (e18_0_61 p ⟨i, n7, n7, F, G, M⟩) (e18_0_62 p ⟨i, n7, n7, F, G, M⟩)) = false := by
        rw [g6, hz]; exact bne_self_eq_false _
      show cnd _ false (cnd _ false (cnd _ (errC (szM M) (e18_0_61 p ⟨i, n7, n7, F, G, M⟩) (e18_0_62 p ⟨i, n7, n7, F, G, M⟩) != errC p.xh2_0 (e18_0_61 p ⟨i, n7, n7, F, G, M⟩) (e18_0_62 p ⟨i, n7, n7, F, G, M⟩)) false)) = false
      rw [this, c_ff, c_ff, c_ff]
    have b34 : e18_0_34 p ⟨i, n7, n7, F, G, M⟩ = false := c_ff _
    have b36 : e18_0_36 p ⟨i, n7, n7, F, G, M⟩ = false := by unfold e18_0_36; rw [c_ff, c_ff]
    have b39 : e18_0_39 p ⟨i, n7, n7, F, G, M⟩ = false := by unfold e18_0_39; rw [c_ff, c_ff, c_ff]
    have b43 : e18_0_43 p ⟨i, n7, n7, F, G, M⟩ = false := by unfold e18_0_43; rw [c_ff, c_ff, c_ff, c_ff]
    have n2 : e18_0_2 p ⟨i, n7, n7, F, G, M⟩ := ⟨by show (0:Int) ≤ i; omega, by show (i:Int) < p.n43; omega⟩
    have n3 : e18_0_3 p ⟨i, n7, n7, F, G, M⟩ := by unfold e18_0_3; rw [e59, hN]; exact hi
    have q0 : 0 ≤ e18_0_61 p ⟨i, n7, n7, F, G, M⟩ := by rw [e61]; exact uA.1
    have qAW : (0 ≤ e18_0_61 p ⟨i, n7, n7, F, G, M⟩ ∧ e18_0_61 p ⟨i, n7, n7, F, G, M⟩ < 18446744073709551616) ∧ 0 ≤ e18_0_62 p ⟨i, n7, n7, F, G, M⟩ ∧ e18_0_62 p ⟨i, n7, n7, F, G, M⟩ < 18446744073709551616 := by rw [e61, e62]; exact ⟨uA, uW⟩
    have n6 : e18_0_6 p ⟨i, n7, n7, F, G, M⟩ := fun _ => ⟨rfl, by show n7 ≤ 100000; omega, q0⟩
    have n8 : e18_0_8 p ⟨i, n7, n7, F, G, M⟩ := fun _ => qAW
    have n15 : e18_0_15 p ⟨i, n7, n7, F, G, M⟩ := fun _ _ => qAW.1
    have n18 : e18_0_18 p ⟨i, n7, n7, F, G, M⟩ := fun _ _ => ⟨rfl, by show n7 ≤ 100000; omega, q0⟩
    have n22 : e18_0_22 p ⟨i, n7, n7, F, G, M⟩ := fun _ _ _ => ⟨rfl, by show n7 ≤ 100000; omega, q0, qAW.2.1, by show 0 ≤ p.xh2_0; omega, by show p.xh2_0 ≤ 4294967296; omega⟩
    have n24 : e18_0_24 p ⟨i, n7, n7, F, G, M⟩ := fun _ _ _ => qAW
    have ps : pre89 (V89.mk p.xh2_0 n7 M n7 F G) := ⟨rfl, by show n7 ≤ 100000; omega, g5, by show szM M = p.xh2_0; rw [g6, hz], g7⟩
    have n33 : e18_0_33 p ⟨i, n7, n7, F, G, M⟩ := fun _ => by
      refine ⟨rfl, ?_, ?_, ?_, ?_⟩
      · show (wrR p.xh2_0 (pl F G n7) (e18_0_61 p ⟨i, n7, n7, F, G, M⟩) (e18_0_62 p ⟨i, n7, n7, F, G, M⟩)).length ≤ 100000
        rw [e65]; omega
      · show MemOk (e18_0_66 p ⟨i, n7, n7, F, G, M⟩)
        rw [e66]; exact wr_ok g5 uA.1 uW
      · show (e18_0_66 p ⟨i, n7, n7, F, G, M⟩).size = p.xh2_0
        rw [e66, hz]; exact hzz
      · show pl _ _ (wrR p.xh2_0 (pl F G n7) (e18_0_61 p ⟨i, n7, n7, F, G, M⟩) (e18_0_62 p ⟨i, n7, n7, F, G, M⟩)).length = wsM (e18_0_66 p ⟨i, n7, n7, F, G, M⟩)
        rw [e66, ← e65]
        exact pl_gP _
    have n35 : e18_0_35 p ⟨i, n7, n7, F, G, M⟩ := fun _ _ => ps
    have n38 : e18_0_38 p ⟨i, n7, n7, F, G, M⟩ := fun _ _ _ => by
      refine ⟨rfl, ?_, ?_, ?_, ?_⟩
      · show (clR p.xh2_0 (pl F G n7) (e18_0_61 p ⟨i, n7, n7, F, G, M⟩) (e18_0_62 p ⟨i, n7, n7, F, G, M⟩)).length ≤ 100000
        rw [e69]; omega
      · show MemOk (e18_0_70 p ⟨i, n7, n7, F, G, M⟩)
        rw [e70]; exact cl_ok g5 A W
      · show (e18_0_70 p ⟨i, n7, n7, F, G, M⟩).size = p.xh2_0
        rw [e70, hz]; exact hzz
      · show pl _ _ (clR p.xh2_0 (pl F G n7) (e18_0_61 p ⟨i, n7, n7, F, G, M⟩) (e18_0_62 p ⟨i, n7, n7, F, G, M⟩)).length = wsM (e18_0_70 p ⟨i, n7, n7, F, G, M⟩)
        rw [e70, ← e69]
        exact pl_gP _
    have n42 : e18_0_42 p ⟨i, n7, n7, F, G, M⟩ := fun _ _ _ _ => ps
    have n46 : e18_0_46 p ⟨i, n7, n7, F, G, M⟩ := fun _ _ _ _ => ps
    have mea : L - (e18_0_49 p ⟨i, n7, n7, F, G, M⟩).toNat < L - (i:Int).toNat := by rw [w49]; omega
    have ff : ∀ {P : Prop}, false = true → P := fun e => by cases e
    have hok : ∀ {X : Prop}, X → (e18_0_2 p ⟨i, n7, n7, F, G, M⟩ ∧ e18_0_3 p ⟨i, n7, n7, F, G, M⟩ ∧ e18_0_6 p ⟨i, n7, n7, F, G, M⟩ ∧ e18_0_8 p ⟨i, n7, n7, F, G, M⟩ ∧ (false = true → True) ∧ (True → e18_0_15 p ⟨i, n7, n7, F, G, M⟩ ∧ e18_0_18 p ⟨i, n7, n7, F, G, M⟩ ∧ (false = true → True) ∧ (True → e18_0_22 p ⟨i, n7, n7, F, G, M⟩ ∧ e18_0_24 p ⟨i, n7, n7, F, G, M⟩ ∧ (false = true → True) ∧ (True → e18_0_33 p ⟨i, n7, n7, F, G, M⟩ ∧ (false = true → True) ∧ (True → e18_0_35 p ⟨i, n7, n7, F, G, M⟩ ∧ (false = true → True) ∧ (True → e18_0_38 p ⟨i, n7, n7, F, G, M⟩ ∧ (false = true → True) ∧ (True → e18_0_42 p ⟨i, n7, n7, F, G, M⟩ ∧ (false = true → True) ∧ (True → e18_0_46 p ⟨i, n7, n7, F, G, M⟩ ∧ (false = true → True) ∧ (True → X))))))))) := fun hx =>
      ⟨n2, n3, n6, n8, fun _ => trivial, fun _ => ⟨n15, n18, fun _ => trivial, fun _ => ⟨n22, n24, fun _ => trivial, fun _ => ⟨n33, fun _ => trivial, fun _ => ⟨n35, fun _ => trivial, fun _ => ⟨n38, fun _ => trivial, fun _ => ⟨n42, fun _ => trivial, fun _ => ⟨n46, fun _ => trivial, fun _ => hx⟩⟩⟩⟩⟩⟩⟩⟩
    cases h47 : e18_0_47 p ⟨i, n7, n7, F, G, M⟩ with
    | true =>
      simp only [r18_0, hd, b9, b19, b25, b34, b36, b39, b43, h47, Tr.ok, Tr.get]
      refine ⟨⟨ff, fun _ => hok ⟨fun _ => trivial, fun e => by cases e⟩⟩, .inr ⟨_, rfl, ⟨i + 1, w49, hi, rfl, ?_, ?_, ?_, ?_⟩, mea⟩⟩
      · show (wrR p.xh2_0 (pl F G n7) (e18_0_61 p ⟨i, n7, n7, F, G, M⟩) (e18_0_62 p ⟨i, n7, n7, F, G, M⟩)).length ≤ i + 1
        rw [e65]; omega
      · show MemOk (e18_0_66 p ⟨i, n7, n7, F, G, M⟩)
        rw [e66]; exact wr_ok g5 uA.1 uW
      · show (e18_0_66 p ⟨i, n7, n7, F, G, M⟩).size = z
        rw [e66]; exact hzz
      · show pl _ _ (wrR p.xh2_0 (pl F G n7) (e18_0_61 p ⟨i, n7, n7, F, G, M⟩) (e18_0_62 p ⟨i, n7, n7, F, G, M⟩)).length = wsM (e18_0_66 p ⟨i, n7, n7, F, G, M⟩)
        rw [e66, ← e65]
        exact pl_gP _
    | false =>
      cases h52 : e18_0_52 p ⟨i, n7, n7, F, G, M⟩ with
      | true =>
        simp only [r18_0, hd, b9, b19, b25, b34, b36, b39, b43, h47, h52, Tr.ok, Tr.get]
        exact ⟨⟨ff, fun _ => hok ⟨ff, fun _ => ⟨fun _ => trivial, fun e => by cases e⟩⟩⟩, .inr ⟨_, rfl, ⟨i + 1, w49, hi, rfl, by show n7 ≤ i + 1; omega, g5, g6, g7⟩, mea⟩⟩
      | false =>
        cases h54 : e18_0_54 p ⟨i, n7, n7, F, G, M⟩ with
        | true =>
          simp only [r18_0, hd, b9, b19, b25, b34, b36, b39, b43, h47, h52, h54, Tr.ok, Tr.get]
          refine ⟨⟨ff, fun _ => hok ⟨ff, fun _ => ⟨ff, fun _ => ⟨fun _ => trivial, fun e => by cases e⟩⟩⟩⟩, .inr ⟨_, rfl, ⟨i + 1, w49, hi, rfl, ?_, ?_, ?_, ?_⟩, mea⟩⟩
          · show (clR p.xh2_0 (pl F G n7) (e18_0_61 p ⟨i, n7, n7, F, G, M⟩) (e18_0_62 p ⟨i, n7, n7, F, G, M⟩)).length ≤ i + 1
            rw [e69]; omega
          · show MemOk (e18_0_70 p ⟨i, n7, n7, F, G, M⟩)
            rw [e70]; exact cl_ok g5 A W
          · show (e18_0_70 p ⟨i, n7, n7, F, G, M⟩).size = z
            rw [e70]; exact hzz
          · show pl _ _ (clR p.xh2_0 (pl F G n7) (e18_0_61 p ⟨i, n7, n7, F, G, M⟩) (e18_0_62 p ⟨i, n7, n7, F, G, M⟩)).length = wsM (e18_0_70 p ⟨i, n7, n7, F, G, M⟩)
            rw [e70, ← e69]
            exact pl_gP _
        | false =>
          cases h58 : e18_0_58 p ⟨i, n7, n7, F, G, M⟩ with
          | true =>
            simp only [r18_0, hd, b9, b19, b25, b34, b36, b39, b43, h47, h52, h54, h58, Tr.ok, Tr.get]
            exact ⟨⟨ff, fun _ => hok ⟨ff, fun _ => ⟨ff, fun _ => ⟨ff, fun _ => ⟨fun _ => trivial, fun e => by cases e⟩⟩⟩⟩⟩, .inr ⟨_, rfl, ⟨i + 1, w49, hi, rfl, by show n7 ≤ i + 1; omega, g5, g6, g7⟩, mea⟩⟩
          | false =>
            simp only [r18_0, hd, b9, b19, b25, b34, b36, b39, b43, h47, h52, h54, h58, Tr.ok, Tr.get]
            exact ⟨⟨ff, fun _ => hok ⟨ff, fun _ => ⟨ff, fun _ => ⟨ff, fun _ => ⟨ff, fun _ => trivial⟩⟩⟩⟩⟩, .inr ⟨_, rfl, ⟨i + 1, w49, hi, rfl, by show n7 ≤ i + 1; omega, g5, g6, g7⟩, mea⟩⟩
  · have hd : e18_0_0 p ⟨i, n7, n7, F, G, M⟩ = true := by
      show cnd (decide ((i:Int) < p.x44)) false true = true
      rw [decide_eq_false (by omega)]; rfl
    refine ⟨?_, .inl ⟨?_, hd⟩⟩
    · simp only [r18_0, hd, Tr.ok]
      exact ⟨fun _ => trivial, (fun e => by cases e)⟩
    · simp only [r18_0, hd, Tr.get]
      exact ⟨_, _, _, rfl⟩
theorem right_szB {z : Int} (h0 : 0 ≤ z) : f84_1 (V84.mk z) = szB z := by
  show cnd (cnd (decide (z ≥ 65536)) (decide (z ≤ 4294967296)) false) (z.tmod 4096 == 0) false = _
  rw [Int.tmod_eq_emod_of_nonneg h0]
  rfl
theorem szB_iff {z : Int} (h : szB z = true) : sizeOk z := by
  by_cases hs : sizeOk z
  · exact hs
  · rw [szB_f hs] at h; cases h
theorem ws_new (z:Int) : wsM (newM z) = [] := by
  unfold wsM
  have : (List.range ((newM z).size / 8).toNat).filter (fun (i:Nat) => (newM z).W (8 * (i:Int)) != 0) = [] := List.filter_eq_nil_iff.2 fun i _ => by
    show ¬ ((0:Int) != 0) = true
    decide
  rw [this]; rfl
theorem law18_true (v : V18) (hQ : v.Q = v.L) (hu : ∀ j, j < v.L → U64 (v.oa j) ∧ U64 (v.ow j)) (hsz : U64 v.size) :
    (f18 v).ok ∧ (f18 v).get = (.bool true, [.ro 108 3 v.Q (fun j => [.int .i64 (v.ok j), .int .u64 (v.oa j), .int .u64 (v.ow j)]) v.ob_], []) := by
  have hr := right_szB hsz.1
  by_cases h60 : v.L ≤ 60
  · have h3 : f18_3 v = false := by show decide _ = false; exact decide_eq_false (by omega)
    cases hb : szB v.size with
    | true =>
      have hs := szB_iff hb
      obtain ⟨m1, m2⟩ := l18_0 (p := f18_16 v) (L := v.L) (z := v.size) rfl rfl hQ h60 rfl hu (s := f18_17 v) rfl rfl rfl (ok_new hs) rfl (ws_new _)
      have m2 : e18_0_0 (f18_16 v) (f18_18 v) = true := m2
      have h4 : f18_4 v = true := hb
      have h5 : f18_5 v = false := by unfold f18_5; rw [hr, hb]; rfl
      have k : ∀ x : Bool, cnd (e18_0_0 (f18_16 v) (f18_18 v)) false x = false := fun x => by rw [m2]; rfl
      refine ⟨⟨fun _ _ => hsz, fun _ _ _ _ => m1, ?_⟩, ?_⟩
      · simp only [Tr.ok, implies_true, and_self]
      · simp only [f18, h3, h4, h5, show f18_6 v = false from k _, show f18_7 v = false from k _, show f18_8 v = false from k _, show f18_9 v = false from k _, show f18_10 v = false from k _, show f18_11 v = false from k _, show f18_12 v = false from k _, show f18_13 v = false from k _, Tr.get]
    | false =>
      have h4 : f18_4 v = false := hb
      have h14 : f18_14 v = true := by unfold f18_14; rw [hr, hb]; rfl
      refine ⟨⟨fun _ _ => hsz, (fun _ _ e => by rw [hb] at e; cases e), ?_⟩, ?_⟩
      · simp only [Tr.ok, implies_true, and_self]
      · simp only [f18, h3, h4, h14, Tr.get]
  · have h3 : f18_3 v = true := by show decide _ = true; exact decide_eq_true (by omega)
    have n1 : ∀ {p : Prop}, f18_15 v = false → p := fun e => by
      have h3 : f18_15 v = true := h3
      rw [h3] at e; cases e
    refine ⟨⟨fun _ e => n1 e, fun _ e => n1 e, ?_⟩, ?_⟩
    · simp only [Tr.ok, implies_true, and_self]
    · simp only [f18, h3, Tr.get]
set_option maxRecDepth 100000
def pre18 (v : V18) : Prop := v.Q = v.L ∧ (∀ j, j < v.L → U64 (v.oa j) ∧ U64 (v.ow j)) ∧ U64 v.size
theorem n18 (v : V18) (h : pre18 v) : (f18 v).ok ∧ (f18 v).get.1 = .bool true ∧ HOws (f18 v).get.2.1 [HO.ro 108 3 v.Q (fun j => [.int .i64 (v.ok j), .int .u64 (v.oa j), .int .u64 (v.ow j)]) v.ob_] := by
  obtain ⟨k1, k2⟩ := law18_true v h.1 h.2.1 h.2.2
  rw [k2]
  exact ⟨k1, rfl, .refl _⟩
noncomputable def f18n (v : V18) : Tr (Fin th.R) := .need (pre18 v) (.leaf (.bool true, [.ro 108 3 v.Q (fun j => [.int .i64 (v.ok j), .int .u64 (v.oa j), .int .u64 (v.ow j)]) v.ob_], []))
theorem s18n : Sound Try.prog th 18 (fnC d18 ofV18 f18n) := fnC_refine s18 fun v h => by
  obtain ⟨hp, _⟩ := h
  obtain ⟨a, b, c⟩ := n18 v hp
  exact ⟨a, b.symm, (qdd18 v).symm, c, by show 1 ≤ 1; decide⟩
theorem claw18 (v : V18) : fnC d18 ofV18 f18n (A18 v) (H18 v) = some (.need (∀ i, i < v.Q → (fun j => [.int .i64 (v.ok j), .int .u64 (v.oa j), .int .u64 (v.ow j)] : Nat → List SV) i = elC (fun j => [.int .i64 (v.ok j), .int .u64 (v.oa j), .int .u64 (v.ow j)] : Nat → List SV) 0 [.int .i64, .int .u64, .int .u64] i) ((f18n v).map (fixF (H18 v)))) := by kernel_rfl
end Go.Sx.M

