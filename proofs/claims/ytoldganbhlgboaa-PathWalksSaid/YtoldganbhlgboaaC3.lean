/- Contracts of the functions of this seat, each by the executor and the kernel; part 3. Their conditions stand in each. -/
import Derived.Test.YtoldganbhlgboaaC2
set_option linter.unusedVariables false
set_option linter.unusedSimpArgs false
namespace Go.Sx.M
open Go Go.Sx Go.Proofs Go.RowKit
set_option maxRecDepth 100000
structure V114 where
  L : Nat
  Q : Nat
  pt : Nat → Int
  pk : Nat → Int
  pa : Nat → Int
  pb : Nat → Int
  pr : Nat → Int
  pg : Nat → Int
  ps : Nat → Int
  pm : Nat → Int
def A114 (v : V114) : List SV := [.slc 0 8 0 v.L]
def H114 (v : V114) : List (HO th.R) := [.row 165 8 v.Q (fun j => [.int .u64 (v.pt j), .int .i64 (v.pk j), .int .u64 (v.pa j), .int .i64 (v.pb j), .int .i64 (v.pr j), .int .i64 (v.pg j), .int .i64 (v.ps j), .int .u64 (v.pm j)])]
def toV114 (v : V114) : List (Vl th.R) := [.n v.L, .n v.Q, .c v.pt, .c v.pk, .c v.pa, .c v.pb, .c v.pr, .c v.pg, .c v.ps, .c v.pm]
def ofV114 : List (Vl th.R) → Option V114
  | [.n L, .n Q, .c pt, .c pk, .c pa, .c pb, .c pr, .c pg, .c ps, .c pm] => some ⟨L, Q, pt, pk, pa, pb, pr, pg, ps, pm⟩
  | _ => none
def d114 : Ft := ⟨[.slc0 0 8], [.rowc 165 [.int .u64, .int .i64, .int .u64, .int .i64, .int .i64, .int .i64, .int .i64, .int .u64]]⟩
structure P114_0 where
  n24 : Nat
  x25 : Int
  N0 : Nat
  F0_0 : Nat → Int
  F0_1 : Nat → Int
  F0_2 : Nat → Int
  F0_3 : Nat → Int
  F0_4 : Nat → Int
  F0_5 : Nat → Int
  F0_6 : Nat → Int
  F0_7 : Nat → Int
  xh1_0 : Int
  xh3_0 : Int
structure S114_0 where
  x26 : Int
  R2 : th.R
  n6_1 : Nat
  xh4_1 : Int
  xh4_2 : Int
  N5 : Nat
  F5_0 : Nat → Int
  F5_1 : Nat → Int
  F5_2 : Nat → Int
  F5_3 : Nat → Int
  F5_4 : Nat → Int
  F5_5 : Nat → Int
  F5_6 : Nat → Int
  F5_7 : Nat → Int
  F5_8 : Nat → Int
noncomputable instance : Inhabited S114_0 := ⟨⟨0, dR, 0, 0, 0, 0, fun _ => 0, fun _ => 0, fun _ => 0, fun _ => 0, fun _ => 0, fun _ => 0, fun _ => 0, fun _ => 0, fun _ => 0⟩⟩
def I114_0 (p : P114_0) (s : S114_0) : St th.R := ⟨[none, none, none, some (.ptr 1 0), none, none, some (.ptr 3 0), some (.ptr 4 0), none, none, none, none, none, none, none, none, none, none, none, none, none, none, none, none, some (.slc 0 8 0 p.n24), some (.int .i64 p.x25), some (.int .i64 s.x26), none, none, none, none, none, none, none, none, none, none, none, none, none, none, none, none, none, none, none, none, none], [.row 165 8 p.N0 (fun j => [.int .u64 (p.F0_0 j), .int .i64 (p.F0_1 j), .int .u64 (p.F0_2 j), .int .i64 (p.F0_3 j), .int .i64 (p.F0_4 j), .int .i64 (p.F0_5 j), .int .i64 (p.F0_6 j), .int .u64 (p.F0_7 j)]), .cells 55 [.int .u64 p.xh1_0, .nils], .res s.R2, .cells 55 [.int .u64 p.xh3_0, .slc 5 9 0 s.n6_1], .cells 175 [.ptr 2 0, .int .u64 s.xh4_1, .int .i64 s.xh4_2], .row 100 9 s.N5 (fun j => [.int .u64 (s.F5_0 j), .int .i64 (s.F5_1 j), .int .u64 (s.F5_2 j), .int .i64 (s.F5_3 j), .int .i64 (s.F5_4 j), .int .i64 (s.F5_5 j), .int .i64 (s.F5_6 j), .int .u64 (s.F5_7 j), .int .i64 (s.F5_8 j)])], [], []⟩
def d114_0 : Lp := ⟨⟨48, [(3, .ptr 1 0), (6, .ptr 3 0), (7, .ptr 4 0), (24, .slc0 0 8), (25, .int .i64), (26, .int .i64)], [.rowc 165 [.int .u64, .int .i64, .int .u64, .int .i64, .int .i64, .int .i64, .int .i64, .int .u64], .cells 55 [.int .u64, .nils], .res, .cells 55 [.int .u64, .slc0 5 9], .cells 175 [.ptr 2 0, .int .u64, .int .i64], .rowc 100 [.int .u64, .int .i64, .int .u64, .int .i64, .int .i64, .int .i64, .int .i64, .int .u64, .int .i64]]⟩, [⟨2006, 100, 9⟩], 5, [2, 3, 4], [3, 6, 7], []⟩
def toV114_0 (p : P114_0) (s : S114_0) : List (Vl th.R) := [.n p.n24, .i p.x25, .i s.x26, .n p.N0, .c p.F0_0, .c p.F0_1, .c p.F0_2, .c p.F0_3, .c p.F0_4, .c p.F0_5, .c p.F0_6, .c p.F0_7, .i p.xh1_0, .r s.R2, .i p.xh3_0, .n s.n6_1, .i s.xh4_1, .i s.xh4_2, .n s.N5, .c s.F5_0, .c s.F5_1, .c s.F5_2, .c s.F5_3, .c s.F5_4, .c s.F5_5, .c s.F5_6, .c s.F5_7, .c s.F5_8]
def ofV114_0 : List (Vl th.R) → Option (P114_0 × S114_0)
  | [.n n24, .i x25, .i x26, .n N0, .c F0_0, .c F0_1, .c F0_2, .c F0_3, .c F0_4, .c F0_5, .c F0_6, .c F0_7, .i xh1_0, .r R2, .i xh3_0, .n n6_1, .i xh4_1, .i xh4_2, .n N5, .c F5_0, .c F5_1, .c F5_2, .c F5_3, .c F5_4, .c F5_5, .c F5_6, .c F5_7, .c F5_8] => some (⟨n24, x25, N0, F0_0, F0_1, F0_2, F0_3, F0_4, F0_5, F0_6, F0_7, xh1_0, xh3_0⟩, ⟨x26, R2, n6_1, xh4_1, xh4_2, N5, F5_0, F5_1, F5_2, F5_3, F5_4, F5_5, F5_6, F5_7, F5_8⟩)
  | _ => none
noncomputable def e114_0_24 (p : P114_0) (s : S114_0) : (Nat) := (0:Nat) + s.x26.toNat
noncomputable def e114_0_25 (p : P114_0) (s : S114_0) : (Int) := p.F0_0 (e114_0_24 p s)
noncomputable def e114_0_26 (p : P114_0) (s : S114_0) : (Int) := p.F0_1 (e114_0_24 p s)
noncomputable def e114_0_27 (p : P114_0) (s : S114_0) : (Int) := p.F0_2 (e114_0_24 p s)
noncomputable def e114_0_28 (p : P114_0) (s : S114_0) : (Int) := p.F0_3 (e114_0_24 p s)
noncomputable def e114_0_29 (p : P114_0) (s : S114_0) : (Int) := p.F0_4 (e114_0_24 p s)
noncomputable def e114_0_30 (p : P114_0) (s : S114_0) : (Int) := p.F0_5 (e114_0_24 p s)
noncomputable def e114_0_31 (p : P114_0) (s : S114_0) : (Int) := p.F0_6 (e114_0_24 p s)
noncomputable def e114_0_32 (p : P114_0) (s : S114_0) : (Int) := p.F0_7 (e114_0_24 p s)
noncomputable def e114_0_33 (p : P114_0) (s : S114_0) : (Nat) := (rtL p.xh3_0 (nds (ndf s.F5_0 s.F5_1 s.F5_2 s.F5_3 s.F5_4 s.F5_5 s.F5_6 s.F5_7 s.F5_8) s.n6_1) (Nd.mk (e114_0_25 p s) (e114_0_26 p s) (e114_0_27 p s) (e114_0_28 p s) (e114_0_29 p s) (e114_0_30 p s) (e114_0_31 p s) (e114_0_32 p s) (0 : Int))).length
noncomputable def e114_0_34 (p : P114_0) (s : S114_0) : (TS) := rtT (TS.mk s.R2 s.xh4_1 s.xh4_2) (e114_0_25 p s) (Sl.mk (e114_0_26 p s) (e114_0_27 p s) (e114_0_28 p s) (e114_0_29 p s) (e114_0_30 p s) (e114_0_31 p s) (e114_0_32 p s) (0 : Int) (0 : Int) (0 : Int))
noncomputable def e114_0_0 (p : P114_0) (s : S114_0) : (Bool) := cnd (decide (s.x26 < p.x25)) false true
noncomputable def e114_0_1 (p : P114_0) (s : S114_0) : (Prop) := (∀ (i : Nat), scpL (0:Nat) ((fun (j : Nat) => [SV.int IntKind.u64 (p.F0_0 j), SV.int IntKind.i64 (p.F0_1 j), SV.int IntKind.u64 (p.F0_2 j), SV.int IntKind.i64 (p.F0_3 j), SV.int IntKind.i64 (p.F0_4 j), SV.int IntKind.i64 (p.F0_5 j), SV.int IntKind.i64 (p.F0_6 j), SV.int IntKind.u64 (p.F0_7 j)]) i) = true) ∧ ∀ (i : Nat), scpL (0:Nat) ((fun (j : Nat) => [SV.int IntKind.u64 (s.F5_0 j), SV.int IntKind.i64 (s.F5_1 j), SV.int IntKind.u64 (s.F5_2 j), SV.int IntKind.i64 (s.F5_3 j), SV.int IntKind.i64 (s.F5_4 j), SV.int IntKind.i64 (s.F5_5 j), SV.int IntKind.i64 (s.F5_6 j), SV.int IntKind.u64 (s.F5_7 j), SV.int IntKind.i64 (s.F5_8 j)]) i) = true
noncomputable def e114_0_2 (p : P114_0) (s : S114_0) : (Prop) := (0 : Int) ≤ s.x26 ∧ s.x26 < (↑p.n24 : Int)
noncomputable def e114_0_3 (p : P114_0) (s : S114_0) : (Prop) := e114_0_24 p s < p.N0
noncomputable def e114_0_4 (p : P114_0) (s : S114_0) : (Prop) := pre109 (V109.mk (e114_0_25 p s) (e114_0_26 p s) (e114_0_27 p s) (e114_0_28 p s) (e114_0_29 p s) (e114_0_30 p s) (e114_0_31 p s) (e114_0_32 p s) s.xh4_1 s.xh4_2 s.R2)
noncomputable def e114_0_5 (p : P114_0) (s : S114_0) : (Prop) := ∀ (i : Nat), scpL (0:Nat) ((fun (j : Nat) => [SV.int IntKind.u64 (s.F5_0 j), SV.int IntKind.i64 (s.F5_1 j), SV.int IntKind.u64 (s.F5_2 j), SV.int IntKind.i64 (s.F5_3 j), SV.int IntKind.i64 (s.F5_4 j), SV.int IntKind.i64 (s.F5_5 j), SV.int IntKind.i64 (s.F5_6 j), SV.int IntKind.u64 (s.F5_7 j), SV.int IntKind.i64 (s.F5_8 j)]) i) = true
noncomputable def e114_0_6 (p : P114_0) (s : S114_0) : (Prop) := ∀ (i : Nat), i < s.N5 → (fun (j : Nat) => [SV.int IntKind.u64 (s.F5_0 j), SV.int IntKind.i64 (s.F5_1 j), SV.int IntKind.u64 (s.F5_2 j), SV.int IntKind.i64 (s.F5_3 j), SV.int IntKind.i64 (s.F5_4 j), SV.int IntKind.i64 (s.F5_5 j), SV.int IntKind.i64 (s.F5_6 j), SV.int IntKind.u64 (s.F5_7 j), SV.int IntKind.i64 (s.F5_8 j)]) i = elC (fun (j : Nat) => [SV.int IntKind.u64 (s.F5_0 j), SV.int IntKind.i64 (s.F5_1 j), SV.int IntKind.u64 (s.F5_2 j), SV.int IntKind.i64 (s.F5_3 j), SV.int IntKind.i64 (s.F5_4 j), SV.int IntKind.i64 (s.F5_5 j), SV.int IntKind.i64 (s.F5_6 j), SV.int IntKind.u64 (s.F5_7 j), SV.int IntKind.i64 (s.F5_8 j)]) (0:Nat) [Ck.int IntKind.u64, Ck.int IntKind.i64, Ck.int IntKind.u64, Ck.int IntKind.i64, Ck.int IntKind.i64, Ck.int IntKind.i64, Ck.int IntKind.i64, Ck.int IntKind.u64, Ck.int IntKind.i64] i
noncomputable def e114_0_7 (p : P114_0) (s : S114_0) : (Prop) := pre110 (V110.mk p.xh3_0 s.n6_1 (e114_0_25 p s) (e114_0_26 p s) (e114_0_27 p s) (e114_0_28 p s) (e114_0_29 p s) (e114_0_30 p s) (e114_0_31 p s) (e114_0_32 p s) s.N5 s.F5_0 s.F5_1 s.F5_2 s.F5_3 s.F5_4 s.F5_5 s.F5_6 s.F5_7 s.F5_8)
noncomputable def e114_0_8 (p : P114_0) (s : S114_0) : (Prop) := ∀ (i : Nat), scpL (0:Nat) ((fun (j : Nat) => ndC (gN (rtL p.xh3_0 (nds (ndf s.F5_0 s.F5_1 s.F5_2 s.F5_3 s.F5_4 s.F5_5 s.F5_6 s.F5_7 s.F5_8) s.n6_1) (Nd.mk (e114_0_25 p s) (e114_0_26 p s) (e114_0_27 p s) (e114_0_28 p s) (e114_0_29 p s) (e114_0_30 p s) (e114_0_31 p s) (e114_0_32 p s) (0 : Int))) j)) i) = true
noncomputable def e114_0_9 (p : P114_0) (s : S114_0) : (Prop) := ((∀ (i : Nat), scpL (0:Nat) ((fun (j : Nat) => [SV.int IntKind.u64 (p.F0_0 j), SV.int IntKind.i64 (p.F0_1 j), SV.int IntKind.u64 (p.F0_2 j), SV.int IntKind.i64 (p.F0_3 j), SV.int IntKind.i64 (p.F0_4 j), SV.int IntKind.i64 (p.F0_5 j), SV.int IntKind.i64 (p.F0_6 j), SV.int IntKind.u64 (p.F0_7 j)]) i) = true) ∧ ∀ (i : Nat), scpL (0:Nat) ((fun (j : Nat) => ndC (gN (rtL p.xh3_0 (nds (ndf s.F5_0 s.F5_1 s.F5_2 s.F5_3 s.F5_4 s.F5_5 s.F5_6 s.F5_7 s.F5_8) s.n6_1) (Nd.mk (e114_0_25 p s) (e114_0_26 p s) (e114_0_27 p s) (e114_0_28 p s) (e114_0_29 p s) (e114_0_30 p s) (e114_0_31 p s) (e114_0_32 p s) (0 : Int))) j)) i) = true) ∧ (∀ (i : Nat), i < p.N0 → (fun (j : Nat) => [SV.int IntKind.u64 (p.F0_0 j), SV.int IntKind.i64 (p.F0_1 j), SV.int IntKind.u64 (p.F0_2 j), SV.int IntKind.i64 (p.F0_3 j), SV.int IntKind.i64 (p.F0_4 j), SV.int IntKind.i64 (p.F0_5 j), SV.int IntKind.i64 (p.F0_6 j), SV.int IntKind.u64 (p.F0_7 j)]) i = elC (fun (j : Nat) => [SV.int IntKind.u64 (p.F0_0 j), SV.int IntKind.i64 (p.F0_1 j), SV.int IntKind.u64 (p.F0_2 j), SV.int IntKind.i64 (p.F0_3 j), SV.int IntKind.i64 (p.F0_4 j), SV.int IntKind.i64 (p.F0_5 j), SV.int IntKind.i64 (p.F0_6 j), SV.int IntKind.u64 (p.F0_7 j)]) (0:Nat) [Ck.int IntKind.u64, Ck.int IntKind.i64, Ck.int IntKind.u64, Ck.int IntKind.i64, Ck.int IntKind.i64, Ck.int IntKind.i64, Ck.int IntKind.i64, Ck.int IntKind.u64] i) ∧ ∀ (i : Nat), i < e114_0_33 p s → (fun (j : Nat) => ndC (gN (rtL p.xh3_0 (nds (ndf s.F5_0 s.F5_1 s.F5_2 s.F5_3 s.F5_4 s.F5_5 s.F5_6 s.F5_7 s.F5_8) s.n6_1) (Nd.mk (e114_0_25 p s) (e114_0_26 p s) (e114_0_27 p s) (e114_0_28 p s) (e114_0_29 p s) (e114_0_30 p s) (e114_0_31 p s) (e114_0_32 p s) (0 : Int))) j)) i = elC (fun (j : Nat) => ndC (gN (rtL p.xh3_0 (nds (ndf s.F5_0 s.F5_1 s.F5_2 s.F5_3 s.F5_4 s.F5_5 s.F5_6 s.F5_7 s.F5_8) s.n6_1) (Nd.mk (e114_0_25 p s) (e114_0_26 p s) (e114_0_27 p s) (e114_0_28 p s) (e114_0_29 p s) (e114_0_30 p s) (e114_0_31 p s) (e114_0_32 p s) (0 : Int))) j)) (0:Nat) [Ck.int IntKind.u64, Ck.int IntKind.i64, Ck.int IntKind.u64, Ck.int IntKind.i64, Ck.int IntKind.i64, Ck.int IntKind.i64, Ck.int IntKind.i64, Ck.int IntKind.u64, Ck.int IntKind.i64] i
noncomputable def e114_0_10 (p : P114_0) (s : S114_0) : (Int) := IntKind.i64.wrap (s.x26 + (1 : Int))
noncomputable def e114_0_11 (p : P114_0) (s : S114_0) : (Mem) := (e114_0_34 p s).M
noncomputable def e114_0_12 (p : P114_0) (s : S114_0) : (Nat) := e114_0_33 p s
noncomputable def e114_0_13 (p : P114_0) (s : S114_0) : (Int) := (e114_0_34 p s).f
noncomputable def e114_0_14 (p : P114_0) (s : S114_0) : (Int) := (e114_0_34 p s).c
noncomputable def e114_0_15 (p : P114_0) (s : S114_0) : Nat → (Int) := fun (j : Nat) => (gN (rtL p.xh3_0 (nds (ndf s.F5_0 s.F5_1 s.F5_2 s.F5_3 s.F5_4 s.F5_5 s.F5_6 s.F5_7 s.F5_8) s.n6_1) (Nd.mk (e114_0_25 p s) (e114_0_26 p s) (e114_0_27 p s) (e114_0_28 p s) (e114_0_29 p s) (e114_0_30 p s) (e114_0_31 p s) (e114_0_32 p s) (0 : Int))) j).t
noncomputable def e114_0_16 (p : P114_0) (s : S114_0) : Nat → (Int) := fun (j : Nat) => (gN (rtL p.xh3_0 (nds (ndf s.F5_0 s.F5_1 s.F5_2 s.F5_3 s.F5_4 s.F5_5 s.F5_6 s.F5_7 s.F5_8) s.n6_1) (Nd.mk (e114_0_25 p s) (e114_0_26 p s) (e114_0_27 p s) (e114_0_28 p s) (e114_0_29 p s) (e114_0_30 p s) (e114_0_31 p s) (e114_0_32 p s) (0 : Int))) j).k
noncomputable def e114_0_17 (p : P114_0) (s : S114_0) : Nat → (Int) := fun (j : Nat) => (gN (rtL p.xh3_0 (nds (ndf s.F5_0 s.F5_1 s.F5_2 s.F5_3 s.F5_4 s.F5_5 s.F5_6 s.F5_7 s.F5_8) s.n6_1) (Nd.mk (e114_0_25 p s) (e114_0_26 p s) (e114_0_27 p s) (e114_0_28 p s) (e114_0_29 p s) (e114_0_30 p s) (e114_0_31 p s) (e114_0_32 p s) (0 : Int))) j).a
noncomputable def e114_0_18 (p : P114_0) (s : S114_0) : Nat → (Int) := fun (j : Nat) => (gN (rtL p.xh3_0 (nds (ndf s.F5_0 s.F5_1 s.F5_2 s.F5_3 s.F5_4 s.F5_5 s.F5_6 s.F5_7 s.F5_8) s.n6_1) (Nd.mk (e114_0_25 p s) (e114_0_26 p s) (e114_0_27 p s) (e114_0_28 p s) (e114_0_29 p s) (e114_0_30 p s) (e114_0_31 p s) (e114_0_32 p s) (0 : Int))) j).b
noncomputable def e114_0_19 (p : P114_0) (s : S114_0) : Nat → (Int) := fun (j : Nat) => (gN (rtL p.xh3_0 (nds (ndf s.F5_0 s.F5_1 s.F5_2 s.F5_3 s.F5_4 s.F5_5 s.F5_6 s.F5_7 s.F5_8) s.n6_1) (Nd.mk (e114_0_25 p s) (e114_0_26 p s) (e114_0_27 p s) (e114_0_28 p s) (e114_0_29 p s) (e114_0_30 p s) (e114_0_31 p s) (e114_0_32 p s) (0 : Int))) j).r
noncomputable def e114_0_20 (p : P114_0) (s : S114_0) : Nat → (Int) := fun (j : Nat) => (gN (rtL p.xh3_0 (nds (ndf s.F5_0 s.F5_1 s.F5_2 s.F5_3 s.F5_4 s.F5_5 s.F5_6 s.F5_7 s.F5_8) s.n6_1) (Nd.mk (e114_0_25 p s) (e114_0_26 p s) (e114_0_27 p s) (e114_0_28 p s) (e114_0_29 p s) (e114_0_30 p s) (e114_0_31 p s) (e114_0_32 p s) (0 : Int))) j).g
noncomputable def e114_0_21 (p : P114_0) (s : S114_0) : Nat → (Int) := fun (j : Nat) => (gN (rtL p.xh3_0 (nds (ndf s.F5_0 s.F5_1 s.F5_2 s.F5_3 s.F5_4 s.F5_5 s.F5_6 s.F5_7 s.F5_8) s.n6_1) (Nd.mk (e114_0_25 p s) (e114_0_26 p s) (e114_0_27 p s) (e114_0_28 p s) (e114_0_29 p s) (e114_0_30 p s) (e114_0_31 p s) (e114_0_32 p s) (0 : Int))) j).s
noncomputable def e114_0_22 (p : P114_0) (s : S114_0) : Nat → (Int) := fun (j : Nat) => (gN (rtL p.xh3_0 (nds (ndf s.F5_0 s.F5_1 s.F5_2 s.F5_3 s.F5_4 s.F5_5 s.F5_6 s.F5_7 s.F5_8) s.n6_1) (Nd.mk (e114_0_25 p s) (e114_0_26 p s) (e114_0_27 p s) (e114_0_28 p s) (e114_0_29 p s) (e114_0_30 p s) (e114_0_31 p s) (e114_0_32 p s) (0 : Int))) j).m
noncomputable def e114_0_23 (p : P114_0) (s : S114_0) : Nat → (Int) := fun (j : Nat) => (gN (rtL p.xh3_0 (nds (ndf s.F5_0 s.F5_1 s.F5_2 s.F5_3 s.F5_4 s.F5_5 s.F5_6 s.F5_7 s.F5_8) s.n6_1) (Nd.mk (e114_0_25 p s) (e114_0_26 p s) (e114_0_27 p s) (e114_0_28 p s) (e114_0_29 p s) (e114_0_30 p s) (e114_0_31 p s) (e114_0_32 p s) (0 : Int))) j).d
theorem n_e114_0_1 (p : P114_0) (s : S114_0) : e114_0_1 p s := by
  unfold e114_0_1
  first
    | (intros; rfl)
    | (intro i; rfl)
    | (intro i _; rfl)
    | (intro _ i; rfl)
    | (intro _ i _; rfl)
    | (refine ⟨?_, ?_⟩ <;> intro i <;> rfl)
    | (refine ⟨?_, ?_, ?_⟩ <;> intro i <;> rfl)
    | (refine ⟨?_, ?_⟩ <;> intro i _ <;> rfl)
    | (repeat' apply And.intro) <;> first | (intro i; rfl) | (intro i _; rfl) | (intro i h; exact absurd h (Nat.not_lt_zero i)) | (intro i; exact scpL_rowSet (by rfl) (by rfl)) | (intro i; exact scpL_rowEl (by kernel_rfl) _)
    | (intros; (repeat' apply And.intro) <;> intros <;> first | rfl | (exact absurd (by assumption) (Nat.not_lt_zero _)))
    | omega
    | decide
theorem n_e114_0_5 (p : P114_0) (s : S114_0) : e114_0_5 p s := by
  unfold e114_0_5
  first
    | (intros; rfl)
    | (intro i; rfl)
    | (intro i _; rfl)
    | (intro _ i; rfl)
    | (intro _ i _; rfl)
    | (refine ⟨?_, ?_⟩ <;> intro i <;> rfl)
    | (refine ⟨?_, ?_, ?_⟩ <;> intro i <;> rfl)
    | (refine ⟨?_, ?_⟩ <;> intro i _ <;> rfl)
    | (repeat' apply And.intro) <;> first | (intro i; rfl) | (intro i _; rfl) | (intro i h; exact absurd h (Nat.not_lt_zero i)) | (intro i; exact scpL_rowSet (by rfl) (by rfl)) | (intro i; exact scpL_rowEl (by kernel_rfl) _)
    | (intros; (repeat' apply And.intro) <;> intros <;> first | rfl | (exact absurd (by assumption) (Nat.not_lt_zero _)))
    | omega
    | decide
theorem n_e114_0_6 (p : P114_0) (s : S114_0) : e114_0_6 p s := by
  unfold e114_0_6
  first
    | (intros; rfl)
    | (intro i; rfl)
    | (intro i _; rfl)
    | (intro _ i; rfl)
    | (intro _ i _; rfl)
    | (refine ⟨?_, ?_⟩ <;> intro i <;> rfl)
    | (refine ⟨?_, ?_, ?_⟩ <;> intro i <;> rfl)
    | (refine ⟨?_, ?_⟩ <;> intro i _ <;> rfl)
    | (repeat' apply And.intro) <;> first | (intro i; rfl) | (intro i _; rfl) | (intro i h; exact absurd h (Nat.not_lt_zero i)) | (intro i; exact scpL_rowSet (by rfl) (by rfl)) | (intro i; exact scpL_rowEl (by kernel_rfl) _)
    | (intros; (repeat' apply And.intro) <;> intros <;> first | rfl | (exact absurd (by assumption) (Nat.not_lt_zero _)))
    | omega
    | decide
theorem n_e114_0_8 (p : P114_0) (s : S114_0) : e114_0_8 p s := by
  unfold e114_0_8
  first
    | (intros; rfl)
    | (intro i; rfl)
    | (intro i _; rfl)
    | (intro _ i; rfl)
    | (intro _ i _; rfl)
    | (refine ⟨?_, ?_⟩ <;> intro i <;> rfl)
    | (refine ⟨?_, ?_, ?_⟩ <;> intro i <;> rfl)
    | (refine ⟨?_, ?_⟩ <;> intro i _ <;> rfl)
    | (repeat' apply And.intro) <;> first | (intro i; rfl) | (intro i _; rfl) | (intro i h; exact absurd h (Nat.not_lt_zero i)) | (intro i; exact scpL_rowSet (by rfl) (by rfl)) | (intro i; exact scpL_rowEl (by kernel_rfl) _)
    | (intros; (repeat' apply And.intro) <;> intros <;> first | rfl | (exact absurd (by assumption) (Nat.not_lt_zero _)))
    | omega
    | decide
theorem n_e114_0_9 (p : P114_0) (s : S114_0) : e114_0_9 p s := by
  unfold e114_0_9
  first
    | (intros; rfl)
    | (intro i; rfl)
    | (intro i _; rfl)
    | (intro _ i; rfl)
    | (intro _ i _; rfl)
    | (refine ⟨?_, ?_⟩ <;> intro i <;> rfl)
    | (refine ⟨?_, ?_, ?_⟩ <;> intro i <;> rfl)
    | (refine ⟨?_, ?_⟩ <;> intro i _ <;> rfl)
    | (repeat' apply And.intro) <;> first | (intro i; rfl) | (intro i _; rfl) | (intro i h; exact absurd h (Nat.not_lt_zero i)) | (intro i; exact scpL_rowSet (by rfl) (by rfl)) | (intro i; exact scpL_rowEl (by kernel_rfl) _)
    | (intros; (repeat' apply And.intro) <;> intros <;> first | rfl | (exact absurd (by assumption) (Nat.not_lt_zero _)))
    | omega
    | decide
noncomputable def rf114_0 (p : P114_0) (s : S114_0) : Tr (Rs th.R S114_0) := (Tr.ite (e114_0_0 p s) (Tr.need (e114_0_1 p s) (Tr.leaf (Rs.out (Ex.exit (0:Nat)) [none, none, none, (some (SV.ptr (1 : Nat) (0:Nat))), none, none, (some (SV.ptr (3 : Nat) (0:Nat))), (some (SV.ptr (4 : Nat) (0:Nat))), none, none, none, none, none, none, none, none, none, none, none, none, none, none, none, none, none, none, none, none, none, none, none, none, none, none, none, none, none, none, none, none, none, none, none, none, none, none, none, none] [(HO.row (165 : Nat) (8 : Nat) (p.N0) (fun j => [SV.int .u64 (p.F0_0 j), SV.int .i64 (p.F0_1 j), SV.int .u64 (p.F0_2 j), SV.int .i64 (p.F0_3 j), SV.int .i64 (p.F0_4 j), SV.int .i64 (p.F0_5 j), SV.int .i64 (p.F0_6 j), SV.int .u64 (p.F0_7 j)])), (HO.cells (55 : Nat) [SV.int .u64 (p.xh1_0), SV.nils]), HO.res (s.R2), (HO.cells (55 : Nat) [SV.int .u64 (p.xh3_0), (SV.slc (5) (9 : Nat) (0:Nat) (s.n6_1))]), (HO.cells (175 : Nat) [(SV.ptr (2 : Nat) (0:Nat)), SV.int .u64 (s.xh4_1), SV.int .i64 (s.xh4_2)]), (HO.row (100 : Nat) (9 : Nat) (s.N5) (fun j => [SV.int .u64 (s.F5_0 j), SV.int .i64 (s.F5_1 j), SV.int .u64 (s.F5_2 j), SV.int .i64 (s.F5_3 j), SV.int .i64 (s.F5_4 j), SV.int .i64 (s.F5_5 j), SV.int .i64 (s.F5_6 j), SV.int .u64 (s.F5_7 j), SV.int .i64 (s.F5_8 j)]))]))) (Tr.need (e114_0_2 p s) (Tr.need (e114_0_3 p s) (Tr.need (e114_0_4 p s) (Tr.need (e114_0_5 p s) (Tr.need (e114_0_6 p s) (Tr.need (e114_0_7 p s) (Tr.need (e114_0_8 p s) (Tr.need (e114_0_9 p s) (Tr.leaf (Rs.on (S114_0.mk ((e114_0_10 p s)) ((e114_0_11 p s)) ((e114_0_12 p s)) ((e114_0_13 p s)) ((e114_0_14 p s)) ((e114_0_12 p s)) ((fun j => (e114_0_15 p s j))) ((fun j => (e114_0_16 p s j))) ((fun j => (e114_0_17 p s j))) ((fun j => (e114_0_18 p s j))) ((fun j => (e114_0_19 p s j))) ((fun j => (e114_0_20 p s j))) ((fun j => (e114_0_21 p s j))) ((fun j => (e114_0_22 p s j))) ((fun j => (e114_0_23 p s j)))))))))))))))
noncomputable def r114_0 (p : P114_0) (s : S114_0) : Tr (Rs th.R S114_0) := (Tr.ite (e114_0_0 p s) (Tr.leaf (Rs.out (Ex.exit (0:Nat)) [none, none, none, (some (SV.ptr (1 : Nat) (0:Nat))), none, none, (some (SV.ptr (3 : Nat) (0:Nat))), (some (SV.ptr (4 : Nat) (0:Nat))), none, none, none, none, none, none, none, none, none, none, none, none, none, none, none, none, none, none, none, none, none, none, none, none, none, none, none, none, none, none, none, none, none, none, none, none, none, none, none, none] [(HO.row (165 : Nat) (8 : Nat) (p.N0) (fun j => [SV.int .u64 (p.F0_0 j), SV.int .i64 (p.F0_1 j), SV.int .u64 (p.F0_2 j), SV.int .i64 (p.F0_3 j), SV.int .i64 (p.F0_4 j), SV.int .i64 (p.F0_5 j), SV.int .i64 (p.F0_6 j), SV.int .u64 (p.F0_7 j)])), (HO.cells (55 : Nat) [SV.int .u64 (p.xh1_0), SV.nils]), HO.res (s.R2), (HO.cells (55 : Nat) [SV.int .u64 (p.xh3_0), (SV.slc (5) (9 : Nat) (0:Nat) (s.n6_1))]), (HO.cells (175 : Nat) [(SV.ptr (2 : Nat) (0:Nat)), SV.int .u64 (s.xh4_1), SV.int .i64 (s.xh4_2)]), (HO.row (100 : Nat) (9 : Nat) (s.N5) (fun j => [SV.int .u64 (s.F5_0 j), SV.int .i64 (s.F5_1 j), SV.int .u64 (s.F5_2 j), SV.int .i64 (s.F5_3 j), SV.int .i64 (s.F5_4 j), SV.int .i64 (s.F5_5 j), SV.int .i64 (s.F5_6 j), SV.int .u64 (s.F5_7 j), SV.int .i64 (s.F5_8 j)]))])) (Tr.need (e114_0_2 p s) (Tr.need (e114_0_3 p s) (Tr.need (e114_0_4 p s) (Tr.need (e114_0_7 p s) (Tr.leaf (Rs.on (S114_0.mk ((e114_0_10 p s)) ((e114_0_11 p s)) ((e114_0_12 p s)) ((e114_0_13 p s)) ((e114_0_14 p s)) ((e114_0_12 p s)) ((fun j => (e114_0_15 p s j))) ((fun j => (e114_0_16 p s j))) ((fun j => (e114_0_17 p s j))) ((fun j => (e114_0_18 p s j))) ((fun j => (e114_0_19 p s j))) ((fun j => (e114_0_20 p s j))) ((fun j => (e114_0_21 p s j))) ((fun j => (e114_0_22 p s j))) ((fun j => (e114_0_23 p s j)))))))))))
noncomputable def E114_0 : St th.R → Out th := evCode th Try.prog (auto th Try.prog nice110n [] 20) (autoH [] [] [] [] : Hints th) (lpAt Try.prog 114 0)
theorem B114_0 : CodeSound th Try.prog (lpAt Try.prog 114 0) E114_0 := evCode_sound (T := th) (P := Try.prog) (tbl := (auto th Try.prog nice110n [] 20)) (auto_sound (nice := nice110n) (us := []) nok110n 20) (autoH [] [] [] [] : Hints th) _ (LoopsOk_mem (fun _ => rfl) _ fun b hb L hL => by cases hL)
noncomputable def L114_0 : St th.R → Out th := loopL d114_0 ofV114_0 r114_0
theorem h1_114_0 (p : P114_0) (s : S114_0) : bld d114_0.tm (toV114_0 p s) = some (I114_0 p s) := by kernel_rfl
theorem h2_114_0 (l : List (Vl th.R)) (p : P114_0) (s : S114_0) (h : ofV114_0 l = some (p, s)) : l = toV114_0 p s := by
  unfold ofV114_0 at h
  split at h
  · cases h; rfl
  · cases h
theorem h3_114_0 (p : P114_0) (s : S114_0) : cvE d114_0 (E114_0 (I114_0 p s)) = some ((rf114_0 p s).map (Rs.map (toV114_0 p))) := by kernel_rfl
theorem h3g_114_0 (p : P114_0) (s : S114_0) : (rf114_0 p s).get = (r114_0 p s).get := by kernel_rfl
theorem h4_114_0 (p : P114_0) (s s1 : S114_0) : outH d114_0.dirt d114_0.n0 (r114_0 p s) = repH (maskH d114_0.dirt 0 d114_0.n0 (I114_0 p s1).heap) (r114_0 p s) := by kernel_rfl
theorem ls114_0 : CodeSound th Try.prog (.loop (lpAt Try.prog 114 0)) L114_0 := loopL_sound B114_0 d114_0 I114_0 toV114_0 (by kernel_rfl) h1_114_0 h2_114_0
  (fun p s => ⟨(rf114_0 p s).map (Rs.map (toV114_0 p)), h3_114_0 p s, fun h => by
    rw [Tr.map_ok]
    unfold r114_0 at h; unfold rf114_0
    simp only [Tr.ok, n_e114_0_1, n_e114_0_5, n_e114_0_6, n_e114_0_8, n_e114_0_9, true_and, and_true, forall_const, implies_true] at h ⊢
    try exact h, by rw [Tr.map_get, h3g_114_0 p s]⟩) h4_114_0
theorem ok114 : LoopsOk th Try.prog (autoH [(7, L114_0)] [] [] [] : Hints th) (bodyOf Try.prog 114) := autoH_ok (bs := [lpAt Try.prog 114 0]) (by kernel_rfl) fun b hb L hL => by
  simp only [List.mem_cons, List.not_mem_nil, or_false] at hb
  rcases hb with rfl
  · have e : lookL [(7, L114_0)] (firstReg (lpAt Try.prog 114 0)) = some L114_0 := by kernel_rfl
    rw [e] at hL; cases hL
    exact ls114_0
noncomputable def f114_16 (v : V114) : (S114_0) := lastS (r114_0 (P114_0.mk v.L (↑v.L : Int) v.Q v.pt v.pk v.pa v.pb v.pr v.pg v.ps v.pm (0 : Int) (65536 : Int))) (S114_0.mk (0 : Int) (newM (65536 : Int)) (0:Nat) (0 : Int) (0 : Int) (0:Nat) (colI (fun (j : Nat) => []) (0:Nat)) (colI (fun (j : Nat) => []) (1 : Nat)) (colI (fun (j : Nat) => []) (2 : Nat)) (colI (fun (j : Nat) => []) (3 : Nat)) (colI (fun (j : Nat) => []) (4 : Nat)) (colI (fun (j : Nat) => []) (5 : Nat)) (colI (fun (j : Nat) => []) (6 : Nat)) (colI (fun (j : Nat) => []) (7 : Nat)) (colI (fun (j : Nat) => []) (8 : Nat)))
noncomputable def f114_0 (v : V114) : (Prop) := false = false → (∀ (i : Nat), i < v.Q → (fun (j : Nat) => [SV.int IntKind.u64 (v.pt j), SV.int IntKind.i64 (v.pk j), SV.int IntKind.u64 (v.pa j), SV.int IntKind.i64 (v.pb j), SV.int IntKind.i64 (v.pr j), SV.int IntKind.i64 (v.pg j), SV.int IntKind.i64 (v.ps j), SV.int IntKind.u64 (v.pm j)]) i = elC (fun (j : Nat) => [SV.int IntKind.u64 (v.pt j), SV.int IntKind.i64 (v.pk j), SV.int IntKind.u64 (v.pa j), SV.int IntKind.i64 (v.pb j), SV.int IntKind.i64 (v.pr j), SV.int IntKind.i64 (v.pg j), SV.int IntKind.i64 (v.ps j), SV.int IntKind.u64 (v.pm j)]) (0:Nat) [Ck.int IntKind.u64, Ck.int IntKind.i64, Ck.int IntKind.u64, Ck.int IntKind.i64, Ck.int IntKind.i64, Ck.int IntKind.i64, Ck.int IntKind.i64, Ck.int IntKind.u64] i) ∧ ∀ (i : Nat), i < (0:Nat) → (fun (j : Nat) => []) i = elC (fun (j : Nat) => []) (0:Nat) [Ck.int IntKind.u64, Ck.int IntKind.i64, Ck.int IntKind.u64, Ck.int IntKind.i64, Ck.int IntKind.i64, Ck.int IntKind.i64, Ck.int IntKind.i64, Ck.int IntKind.u64, Ck.int IntKind.i64] i
noncomputable def f114_1 (v : V114) : (Prop) := false = false → LT (r114_0 (P114_0.mk v.L (↑v.L : Int) v.Q v.pt v.pk v.pa v.pb v.pr v.pg v.ps v.pm (0 : Int) (65536 : Int))) (S114_0.mk (0 : Int) (newM (65536 : Int)) (0:Nat) (0 : Int) (0 : Int) (0:Nat) (colI (fun (j : Nat) => []) (0:Nat)) (colI (fun (j : Nat) => []) (1 : Nat)) (colI (fun (j : Nat) => []) (2 : Nat)) (colI (fun (j : Nat) => []) (3 : Nat)) (colI (fun (j : Nat) => []) (4 : Nat)) (colI (fun (j : Nat) => []) (5 : Nat)) (colI (fun (j : Nat) => []) (6 : Nat)) (colI (fun (j : Nat) => []) (7 : Nat)) (colI (fun (j : Nat) => []) (8 : Nat)))
noncomputable def f114_2 (v : V114) : (Nat) := (f114_16 v).n6_1
noncomputable def f114_3 (v : V114) : (th.R) := (f114_16 v).R2
noncomputable def f114_4 (v : V114) : (Int) := (f114_16 v).xh4_1
noncomputable def f114_5 (v : V114) : (Int) := (f114_16 v).xh4_2
noncomputable def f114_6 (v : V114) : (Nat) := (f114_16 v).N5
noncomputable def f114_7 (v : V114) : Nat → (Int) := fun (j : Nat) => (f114_16 v).F5_0 j
noncomputable def f114_8 (v : V114) : Nat → (Int) := fun (j : Nat) => (f114_16 v).F5_1 j
noncomputable def f114_9 (v : V114) : Nat → (Int) := fun (j : Nat) => (f114_16 v).F5_2 j
noncomputable def f114_10 (v : V114) : Nat → (Int) := fun (j : Nat) => (f114_16 v).F5_3 j
noncomputable def f114_11 (v : V114) : Nat → (Int) := fun (j : Nat) => (f114_16 v).F5_4 j
noncomputable def f114_12 (v : V114) : Nat → (Int) := fun (j : Nat) => (f114_16 v).F5_5 j
noncomputable def f114_13 (v : V114) : Nat → (Int) := fun (j : Nat) => (f114_16 v).F5_6 j
noncomputable def f114_14 (v : V114) : Nat → (Int) := fun (j : Nat) => (f114_16 v).F5_7 j
noncomputable def f114_15 (v : V114) : Nat → (Int) := fun (j : Nat) => (f114_16 v).F5_8 j
theorem n_f114_0 (v : V114) : f114_0 v := by
  unfold f114_0
  first
    | (intros; rfl)
    | (intro i; rfl)
    | (intro i _; rfl)
    | (intro _ i; rfl)
    | (intro _ i _; rfl)
    | (refine ⟨?_, ?_⟩ <;> intro i <;> rfl)
    | (refine ⟨?_, ?_, ?_⟩ <;> intro i <;> rfl)
    | (refine ⟨?_, ?_⟩ <;> intro i _ <;> rfl)
    | (repeat' apply And.intro) <;> first | (intro i; rfl) | (intro i _; rfl) | (intro i h; exact absurd h (Nat.not_lt_zero i)) | (intro i; exact scpL_rowSet (by rfl) (by rfl)) | (intro i; exact scpL_rowEl (by kernel_rfl) _)
    | (intros; (repeat' apply And.intro) <;> intros <;> first | rfl | (exact absurd (by assumption) (Nat.not_lt_zero _)))
    | omega
    | decide
noncomputable def ff114 (v : V114) : Tr (Fin th.R) := (Tr.need (f114_0 v) (Tr.need (f114_1 v) (Tr.ite (false) (Tr.leaf ((SV.tup [SV.nilp, (SV.agg [(SV.int .u64 (65536 : Int)), SV.nils])]), [(HO.row (165 : Nat) (8 : Nat) (v.Q) (fun j => [SV.int .u64 (v.pt j), SV.int .i64 (v.pk j), SV.int .u64 (v.pa j), SV.int .i64 (v.pb j), SV.int .i64 (v.pr j), SV.int .i64 (v.pg j), SV.int .i64 (v.ps j), SV.int .u64 (v.pm j)]))], List.nil)) (Tr.leaf ((SV.tup [(SV.ptr (4 : Nat) (0:Nat)), (SV.agg [(SV.int .u64 (65536 : Int)), (SV.slc (5 : Nat) (9 : Nat) (0:Nat) (f114_2 v))])]), [(HO.row (165 : Nat) (8 : Nat) (v.Q) (fun j => [SV.int .u64 (v.pt j), SV.int .i64 (v.pk j), SV.int .u64 (v.pa j), SV.int .i64 (v.pb j), SV.int .i64 (v.pr j), SV.int .i64 (v.pg j), SV.int .i64 (v.ps j), SV.int .u64 (v.pm j)])), (HO.cells (55 : Nat) [(SV.int .u64 (65536 : Int)), (SV.slc (5 : Nat) (9 : Nat) (0:Nat) (f114_2 v))]), HO.res (f114_3 v), (HO.cells (55 : Nat) [(SV.int .u64 (65536 : Int)), (SV.slc (5 : Nat) (9 : Nat) (0:Nat) (f114_2 v))]), (HO.cells (175 : Nat) [(SV.ptr (2 : Nat) (0:Nat)), SV.int .u64 (f114_4 v), SV.int .i64 (f114_5 v)]), (HO.row (100 : Nat) (9 : Nat) (f114_6 v) (fun j => [SV.int .u64 (f114_7 v j), SV.int .i64 (f114_8 v j), SV.int .u64 (f114_9 v j), SV.int .i64 (f114_10 v j), SV.int .i64 (f114_11 v j), SV.int .i64 (f114_12 v j), SV.int .i64 (f114_13 v j), SV.int .u64 (f114_14 v j), SV.int .i64 (f114_15 v j)]))], [(1 : Nat), (2 : Nat), (3 : Nat), (4 : Nat), 3])))))
noncomputable def f114 (v : V114) : Tr (Fin th.R) := (Tr.need (f114_1 v) (Tr.ite (false) (Tr.leaf ((SV.tup [SV.nilp, (SV.agg [(SV.int .u64 (65536 : Int)), SV.nils])]), [(HO.row (165 : Nat) (8 : Nat) (v.Q) (fun j => [SV.int .u64 (v.pt j), SV.int .i64 (v.pk j), SV.int .u64 (v.pa j), SV.int .i64 (v.pb j), SV.int .i64 (v.pr j), SV.int .i64 (v.pg j), SV.int .i64 (v.ps j), SV.int .u64 (v.pm j)]))], [])) (Tr.leaf ((SV.tup [(SV.ptr (4 : Nat) (0:Nat)), (SV.agg [(SV.int .u64 (65536 : Int)), (SV.slc (5 : Nat) (9 : Nat) (0:Nat) (f114_2 v))])]), [(HO.row (165 : Nat) (8 : Nat) (v.Q) (fun j => [SV.int .u64 (v.pt j), SV.int .i64 (v.pk j), SV.int .u64 (v.pa j), SV.int .i64 (v.pb j), SV.int .i64 (v.pr j), SV.int .i64 (v.pg j), SV.int .i64 (v.ps j), SV.int .u64 (v.pm j)])), (HO.cells (55 : Nat) [(SV.int .u64 (65536 : Int)), (SV.slc (5 : Nat) (9 : Nat) (0:Nat) (f114_2 v))]), HO.res (f114_3 v), (HO.cells (55 : Nat) [(SV.int .u64 (65536 : Int)), (SV.slc (5 : Nat) (9 : Nat) (0:Nat) (f114_2 v))]), (HO.cells (175 : Nat) [(SV.ptr (2 : Nat) (0:Nat)), SV.int .u64 (f114_4 v), SV.int .i64 (f114_5 v)]), (HO.row (100 : Nat) (9 : Nat) (f114_6 v) (fun j => [SV.int .u64 (f114_7 v j), SV.int .i64 (f114_8 v j), SV.int .u64 (f114_9 v j), SV.int .i64 (f114_10 v j), SV.int .i64 (f114_11 v j), SV.int .i64 (f114_12 v j), SV.int .i64 (f114_13 v j), SV.int .u64 (f114_14 v j), SV.int .i64 (f114_15 v j)]))], []))))
noncomputable def C114 : CF th.R := fnC d114 ofV114 (f114 )
theorem q114 (v : V114) : (evFn th Try.prog (auto th Try.prog nice110n [] 20) (autoH [(7, L114_0)] [] [] [] : Hints th) 114) (A114 v) (H114 v) = some (ff114 v) := by kernel_rfl
theorem qg114 (v : V114) : ((ff114 v).map (setD [])).get = (f114 v).get := by kernel_rfl
theorem qd114 (v : V114) : allD 1 [] (ff114 v) = true := by kernel_rfl
theorem s114 : Sound Try.prog th 114 (C114 ) := fnC_sound (evFn_sound' (T := th) (P := Try.prog) (tbl := (auto th Try.prog nice110n [] 20)) (auto_sound (nice := nice110n) (us := []) nok110n 20) (H := (autoH [(7, L114_0)] [] [] [] : Hints th)) (k := 114) (fnLoops ok114)) d114 A114 H114 toV114 (by kernel_rfl) (fun v => by kernel_rfl)
  (fun l v h => by
    unfold ofV114 at h
    split at h
    · cases h; rfl
    · cases h)
  [] (fun v => ⟨ff114 v, q114 v, fun h => by
    unfold f114 at h; unfold ff114
    simp only [Tr.ok, n_f114_0, true_and, and_true, forall_const, implies_true] at h ⊢
    try exact h, qg114 v, qd114 v⟩)
theorem qdd114 (v : V114) : (f114 v).get.2.2 = [] := by
  rw [← qg114, Tr.map_get]; rfl
end Go.Sx.M

namespace Go.Sx.M
open Go Go.Sx Go.Proofs Go.RowKit
set_option maxRecDepth 100000
def Q114 (p : P114_0) (s : S114_0) : Prop := s.N5 = s.n6_1 ∧ ((⟨s.R2, s.xh4_1, s.xh4_2⟩ : TS), nds (ndf s.F5_0 s.F5_1 s.F5_2 s.F5_3 s.F5_4 s.F5_5 s.F5_6 s.F5_7 s.F5_8) s.n6_1) = opS (nds (ndf p.F0_0 p.F0_1 p.F0_2 p.F0_3 p.F0_4 p.F0_5 p.F0_6 p.F0_7 (fun _ => 0)) p.n24)
theorem l114 {p : P114_0} {s : S114_0} (hM : p.N0 = p.n24) (hL : p.n24 ≤ 1000) (h25 : p.x25 = p.n24) (hz : p.xh3_0 = 65536) (hs : s.x26 = 0 ∧ s.R2 = newM 65536 ∧ s.n6_1 = 0 ∧ s.xh4_1 = 0 ∧ s.xh4_2 = 0 ∧ s.N5 = 0)
    (hR : ∀ j, j < p.n24 → U64 (p.F0_0 j) ∧ SlR (slN (ndf p.F0_0 p.F0_1 p.F0_2 p.F0_3 p.F0_4 p.F0_5 p.F0_6 p.F0_7 (fun _ => 0) j))) :
    LT (r114_0 p) s ∧ Q114 p (lastS (r114_0 p) s) := by
  refine LT.post (fun s : S114_0 => ∃ i : Nat, s.x26 = i ∧ i ≤ p.n24 ∧ s.N5 = s.n6_1 ∧ ((⟨s.R2, s.xh4_1, s.xh4_2⟩ : TS), nds (ndf s.F5_0 s.F5_1 s.F5_2 s.F5_3 s.F5_4 s.F5_5 s.F5_6 s.F5_7 s.F5_8) s.n6_1) = opS (nds (ndf p.F0_0 p.F0_1 p.F0_2 p.F0_3 p.F0_4 p.F0_5 p.F0_6 p.F0_7 (fun _ => 0)) i)) (Q114 p)
    (fun s : S114_0 => (p.n24 - s.x26).toNat) ?_ ?_
  rotate_left
  · obtain ⟨a1, a2, a3, a4, a5, a6⟩ := hs
    refine ⟨0, a1, Nat.zero_le _, by rw [a3, a6], ?_⟩
    rw [a2, a3, a4, a5]
    rfl
  rintro ⟨x, R, n, f, c, N, F0, F1, F2, F3, F4, F5, F6, F7, F8⟩ ⟨i, g1, g2, g3, g4⟩
  simp only at g1 g3 g4
  subst g1
  have w2 : IntKind.i64.wrap ((i : Int) + 1) = ((i + 1 : Nat) : Int) := by rw [wi (by omega) (by omega)]; omega
  have hdd : e114_0_0 p ⟨i, R, n, f, c, N, F0, F1, F2, F3, F4, F5, F6, F7, F8⟩ = cnd (decide ((i : Int) < (p.n24 : Int))) false true := by simp only [e114_0_0, h25]
  by_cases hc : i < p.n24
  · have hd : cnd (decide ((i : Int) < (p.n24 : Int))) false true = false := by rw [decide_eq_true (by omega)]; rfl
    obtain ⟨q1, q2⟩ := hR i hc
    have ht : TR (⟨R, f, c⟩ : TS) := by
      have := opS_R (ndf p.F0_0 p.F0_1 p.F0_2 p.F0_3 p.F0_4 p.F0_5 p.F0_6 p.F0_7 (fun _ => 0)) i fun j hj => hR j (by omega)
      rw [← g4] at this
      exact this
    have hn : n ≤ i := by
      have := opS_len (ndf p.F0_0 p.F0_1 p.F0_2 p.F0_3 p.F0_4 p.F0_5 p.F0_6 p.F0_7 (fun _ => 0)) i
      rw [← g4] at this
      rw [nds_len] at this
      exact this
    have hi0 : 0 + (i : Int).toNat = i := by omega
    simp only [r114_0, hdd, hd, Tr.ok, Tr.get]
    refine ⟨⟨(fun e => by cases e), fun _ => ⟨⟨by simp only; omega, by simp only; omega⟩, ?_, ?_, ?_, trivial⟩⟩, .inr ⟨_, rfl, ⟨i + 1, ?_, by omega, ?_, ?_⟩, ?_⟩⟩
    · simp only [e114_0_3, e114_0_24]; omega
    · simp only [e114_0_4, e114_0_24, e114_0_25, e114_0_26, e114_0_27, e114_0_28, e114_0_29, e114_0_30, e114_0_31, e114_0_32, hi0]
      exact ⟨q1, q2, ht⟩
    · exact ⟨g3, by show n ≤ 100000; omega⟩
    · exact w2
    · rfl
    · rw [opS_succ, ← g4]
      simp only [e114_0_11, e114_0_12, e114_0_13, e114_0_14, e114_0_15, e114_0_16, e114_0_17, e114_0_18, e114_0_19, e114_0_20, e114_0_21, e114_0_22, e114_0_23, e114_0_24, e114_0_25, e114_0_26, e114_0_27, e114_0_28, e114_0_29, e114_0_30, e114_0_31, e114_0_32, e114_0_33, e114_0_34, hi0, hz, ndf_gN]
      rfl
    · show ((p.n24 : Int) - (e114_0_10 p _)).toNat < ((p.n24 : Int) - (i : Int)).toNat
      simp only [e114_0_10, w2]
      omega
  · have hd : cnd (decide ((i : Int) < (p.n24 : Int))) false true = true := by rw [decide_eq_false (by omega)]; rfl
    simp only [r114_0, hdd, hd, Tr.ok, Tr.get]
    have : i = p.n24 := by omega
    subst this
    exact ⟨⟨fun _ => trivial, (fun e => by cases e)⟩, .inl ⟨⟨_, _, _, rfl⟩, g3, g4⟩⟩
def pre114 (v : V114) : Prop := (v.Q = v.L ∧ v.L ≤ 1000) ∧ ∀ j, j < v.L → U64 (v.pt j) ∧ SlR (slN (ndf v.pt v.pk v.pa v.pb v.pr v.pg v.ps v.pm (fun _ => 0) j))
theorem n114 (v : V114) (h : pre114 v) : (f114 v).ok ∧ (f114 v).get.1 = .tup [.ptr 4 0, .agg [.int .u64 65536, .slc 5 9 0 (opS (nds (ndf v.pt v.pk v.pa v.pb v.pr v.pg v.ps v.pm (fun _ => 0)) v.L)).2.length]] ∧ HOws (f114 v).get.2.1 [HO.row 165 8 v.Q (fun j => [.int .u64 (v.pt j), .int .i64 (v.pk j), .int .u64 (v.pa j), .int .i64 (v.pb j), .int .i64 (v.pr j), .int .i64 (v.pg j), .int .i64 (v.ps j), .int .u64 (v.pm j)]), HO.gone, HO.res (opS (nds (ndf v.pt v.pk v.pa v.pb v.pr v.pg v.ps v.pm (fun _ => 0)) v.L)).1.M, HO.gone, HO.cells 175 [.ptr 2 0, .int .u64 (opS (nds (ndf v.pt v.pk v.pa v.pb v.pr v.pg v.ps v.pm (fun _ => 0)) v.L)).1.f, .int .i64 (opS (nds (ndf v.pt v.pk v.pa v.pb v.pr v.pg v.ps v.pm (fun _ => 0)) v.L)).1.c], rowN ((opS (nds (ndf v.pt v.pk v.pa v.pb v.pr v.pg v.ps v.pm (fun _ => 0)) v.L)).2)] := by
  obtain ⟨⟨h1, h2⟩, h3⟩ := h
  obtain ⟨k1, k2, k3⟩ := l114 (p := P114_0.mk v.L (v.L : Int) v.Q v.pt v.pk v.pa v.pb v.pr v.pg v.ps v.pm 0 65536) (s := S114_0.mk 0 (newM 65536) 0 0 0 0 _ _ _ _ _ _ _ _ _) h1 h2 rfl rfl ⟨rfl, rfl, rfl, rfl, rfl, rfl⟩ h3
  have k3 : ((⟨(f114_16 v).R2, (f114_16 v).xh4_1, (f114_16 v).xh4_2⟩ : TS), nds (ndf (f114_16 v).F5_0 (f114_16 v).F5_1 (f114_16 v).F5_2 (f114_16 v).F5_3 (f114_16 v).F5_4 (f114_16 v).F5_5 (f114_16 v).F5_6 (f114_16 v).F5_7 (f114_16 v).F5_8) (f114_16 v).n6_1) = opS (nds (ndf v.pt v.pk v.pa v.pb v.pr v.pg v.ps v.pm (fun _ => 0)) v.L) := k3
  have k2 : (f114_16 v).N5 = (f114_16 v).n6_1 := k2
  have e1 := congrArg (fun z => z.1.M) k3
  have e2 := congrArg (fun z => z.1.f) k3
  have e3 := congrArg (fun z => z.1.c) k3
  have e4 := congrArg (fun z => z.2) k3
  have e5 := congrArg List.length e4
  simp only [nds_len] at e1 e2 e3 e4 e5
  refine ⟨⟨fun _ => k1, (fun e => by cases e), fun _ => trivial⟩, ?_, ?_⟩
  · simp only [f114, Tr.get, f114_2, e5]
  · simp only [f114, Tr.get, f114_2, f114_3, f114_4, f114_5, f114_6, f114_7, f114_8, f114_9, f114_10, f114_11, f114_12, f114_13, f114_14, f114_15]
    rw [e1, e2, e3]
    refine .cons (.inl rfl) (.cons (.inr (.inl rfl)) (.cons (.inl rfl) (.cons (.inr (.inl rfl)) (.cons (.inl rfl) (.cons ?_ .nil)))))
    rw [← e4]
    exact rowA k2
noncomputable def f114n (v : V114) : Tr (Fin th.R) := .need (pre114 v) (.leaf (.tup [.ptr 4 0, .agg [.int .u64 65536, .slc 5 9 0 (opS (nds (ndf v.pt v.pk v.pa v.pb v.pr v.pg v.ps v.pm (fun _ => 0)) v.L)).2.length]], [.row 165 8 v.Q (fun j => [.int .u64 (v.pt j), .int .i64 (v.pk j), .int .u64 (v.pa j), .int .i64 (v.pb j), .int .i64 (v.pr j), .int .i64 (v.pg j), .int .i64 (v.ps j), .int .u64 (v.pm j)]), .gone, .res (opS (nds (ndf v.pt v.pk v.pa v.pb v.pr v.pg v.ps v.pm (fun _ => 0)) v.L)).1.M, .gone, .cells 175 [.ptr 2 0, .int .u64 (opS (nds (ndf v.pt v.pk v.pa v.pb v.pr v.pg v.ps v.pm (fun _ => 0)) v.L)).1.f, .int .i64 (opS (nds (ndf v.pt v.pk v.pa v.pb v.pr v.pg v.ps v.pm (fun _ => 0)) v.L)).1.c], rowN ((opS (nds (ndf v.pt v.pk v.pa v.pb v.pr v.pg v.ps v.pm (fun _ => 0)) v.L)).2)], []))
theorem s114n : Sound Try.prog th 114 (fnC d114 ofV114 f114n) := fnC_refine s114 fun v h => by
  obtain ⟨hp, _⟩ := h
  obtain ⟨a, b, c⟩ := n114 v hp
  exact ⟨a, b.symm, (qdd114 v).symm, c, by show 1 ≤ 6; decide⟩
noncomputable def nice114n : List (Nat × CF th.R) := (114, lift (fnC d114 ofV114 f114n)) :: nice110n
theorem nok114n : NiceOk Try.prog th nice114n := ⟨lift_sound s114n, nok110n⟩
end Go.Sx.M

namespace Go.Sx.M
open Go Go.Sx Go.Proofs Go.RowKit
set_option maxRecDepth 100000
structure V43 where
  k : Int
  a : Int
  b : Int
  r : Int
  g : Int
  s : Int
  m : Int
  x : Int
def A43 (v : V43) : List SV := [.agg [.int .i64 v.k, .int .u64 v.a, .int .i64 v.b, .int .i64 v.r, .int .i64 v.g, .int .i64 v.s, .int .u64 v.m], .int .i64 v.x]
def H43 (v : V43) : List (HO th.R) := []
def toV43 (v : V43) : List (Vl th.R) := [.i v.k, .i v.a, .i v.b, .i v.r, .i v.g, .i v.s, .i v.m, .i v.x]
def ofV43 : List (Vl th.R) → Option V43
  | [.i k, .i a, .i b, .i r, .i g, .i s, .i m, .i x] => some ⟨k, a, b, r, g, s, m, x⟩
  | _ => none
def d43 : Ft := ⟨[.agg [.int .i64, .int .u64, .int .i64, .int .i64, .int .i64, .int .i64, .int .u64], .int .i64], []⟩
noncomputable def f43_8 (v : V43) : (Bool) := cnd (v.k == (2 : Int)) (v.k == (2 : Int)) (v.k == (8 : Int))
noncomputable def f43_0 (v : V43) : (Int) := cnd (!f45_1 v.k v.a v.b v.r v.g v.s v.m) (0 : Int) (cnd (!f116_0 v.x) (0 : Int) (cnd (cnd (f43_8 v) false (cnd (v.k == (9 : Int)) false (cnd (v.k == (3 : Int)) false (cnd (v.k == (5 : Int)) (v.s == (0 : Int)) false)))) (0 : Int) (cnd (cnd (f43_8 v) false (cnd (v.k == (9 : Int)) false (cnd (v.k == (3 : Int)) false (cnd (v.k == (5 : Int)) false true)))) (0 : Int) (cnd (f43_8 v) v.k (cnd (v.k == (9 : Int)) v.k (cnd (v.k == (3 : Int)) v.k v.k))))))
noncomputable def f43_1 (v : V43) : (Int) := cnd (!f45_1 v.k v.a v.b v.r v.g v.s v.m) (0 : Int) (cnd (!f116_0 v.x) (0 : Int) (cnd (cnd (f43_8 v) false (cnd (v.k == (9 : Int)) false (cnd (v.k == (3 : Int)) false (cnd (v.k == (5 : Int)) (v.s == (0 : Int)) false)))) (0 : Int) (cnd (cnd (f43_8 v) false (cnd (v.k == (9 : Int)) false (cnd (v.k == (3 : Int)) false (cnd (v.k == (5 : Int)) false true)))) (0 : Int) (cnd (f43_8 v) v.a (cnd (v.k == (9 : Int)) v.a (cnd (v.k == (3 : Int)) v.a v.a))))))
noncomputable def f43_2 (v : V43) : (Int) := cnd (!f45_1 v.k v.a v.b v.r v.g v.s v.m) (0 : Int) (cnd (!f116_0 v.x) (0 : Int) (cnd (cnd (f43_8 v) false (cnd (v.k == (9 : Int)) false (cnd (v.k == (3 : Int)) false (cnd (v.k == (5 : Int)) (v.s == (0 : Int)) false)))) (0 : Int) (cnd (cnd (f43_8 v) false (cnd (v.k == (9 : Int)) false (cnd (v.k == (3 : Int)) false (cnd (v.k == (5 : Int)) false true)))) (0 : Int) (cnd (f43_8 v) v.b (cnd (v.k == (9 : Int)) v.b (cnd (v.k == (3 : Int)) v.b v.b))))))
noncomputable def f43_3 (v : V43) : (Int) := cnd (!f45_1 v.k v.a v.b v.r v.g v.s v.m) (0 : Int) (cnd (!f116_0 v.x) (0 : Int) (cnd (cnd (f43_8 v) false (cnd (v.k == (9 : Int)) false (cnd (v.k == (3 : Int)) false (cnd (v.k == (5 : Int)) (v.s == (0 : Int)) false)))) (0 : Int) (cnd (cnd (f43_8 v) false (cnd (v.k == (9 : Int)) false (cnd (v.k == (3 : Int)) false (cnd (v.k == (5 : Int)) false true)))) (0 : Int) (cnd (f43_8 v) v.r (cnd (v.k == (9 : Int)) (f117_0 v.r v.x) (cnd (v.k == (3 : Int)) (f117_0 v.r v.x) v.r))))))
noncomputable def f43_4 (v : V43) : (Int) := cnd (!f45_1 v.k v.a v.b v.r v.g v.s v.m) (0 : Int) (cnd (!f116_0 v.x) (0 : Int) (cnd (cnd (f43_8 v) false (cnd (v.k == (9 : Int)) false (cnd (v.k == (3 : Int)) false (cnd (v.k == (5 : Int)) (v.s == (0 : Int)) false)))) (0 : Int) (cnd (cnd (f43_8 v) false (cnd (v.k == (9 : Int)) false (cnd (v.k == (3 : Int)) false (cnd (v.k == (5 : Int)) false true)))) (0 : Int) (cnd (f43_8 v) v.g (cnd (v.k == (9 : Int)) v.g (cnd (v.k == (3 : Int)) v.g v.g))))))
noncomputable def f43_5 (v : V43) : (Int) := cnd (!f45_1 v.k v.a v.b v.r v.g v.s v.m) (0 : Int) (cnd (!f116_0 v.x) (0 : Int) (cnd (cnd (f43_8 v) false (cnd (v.k == (9 : Int)) false (cnd (v.k == (3 : Int)) false (cnd (v.k == (5 : Int)) (v.s == (0 : Int)) false)))) (0 : Int) (cnd (cnd (f43_8 v) false (cnd (v.k == (9 : Int)) false (cnd (v.k == (3 : Int)) false (cnd (v.k == (5 : Int)) false true)))) (0 : Int) (cnd (f43_8 v) v.s (cnd (v.k == (9 : Int)) v.s (cnd (v.k == (3 : Int)) (0 : Int) v.s))))))
noncomputable def f43_6 (v : V43) : (Int) := cnd (!f45_1 v.k v.a v.b v.r v.g v.s v.m) (0 : Int) (cnd (!f116_0 v.x) (0 : Int) (cnd (cnd (f43_8 v) false (cnd (v.k == (9 : Int)) false (cnd (v.k == (3 : Int)) false (cnd (v.k == (5 : Int)) (v.s == (0 : Int)) false)))) (0 : Int) (cnd (cnd (f43_8 v) false (cnd (v.k == (9 : Int)) false (cnd (v.k == (3 : Int)) false (cnd (v.k == (5 : Int)) false true)))) (0 : Int) (cnd (f43_8 v) v.m (cnd (v.k == (9 : Int)) v.m (cnd (v.k == (3 : Int)) (0 : Int) v.m))))))
noncomputable def f43_7 (v : V43) : (Int) := cnd (!f45_1 v.k v.a v.b v.r v.g v.s v.m) (10 : Int) (cnd (!f116_0 v.x) (21 : Int) (cnd (cnd (f43_8 v) false (cnd (v.k == (9 : Int)) false (cnd (v.k == (3 : Int)) false (cnd (v.k == (5 : Int)) (v.s == (0 : Int)) false)))) (31 : Int) (cnd (cnd (f43_8 v) false (cnd (v.k == (9 : Int)) false (cnd (v.k == (3 : Int)) false (cnd (v.k == (5 : Int)) false true)))) (20 : Int) (0 : Int))))
noncomputable def ff43 (v : V43) : Tr (Fin th.R) := (Tr.leaf (SV.tup [SV.agg [SV.int .i64 (f43_0 v), SV.int .u64 (f43_1 v), SV.int .i64 (f43_2 v), SV.int .i64 (f43_3 v), SV.int .i64 (f43_4 v), SV.int .i64 (f43_5 v), SV.int .u64 (f43_6 v)], SV.int .i64 (f43_7 v)], List.nil, List.nil))
noncomputable def f43 (v : V43) : Tr (Fin th.R) := (Tr.leaf (SV.tup [SV.agg [SV.int .i64 (f43_0 v), SV.int .u64 (f43_1 v), SV.int .i64 (f43_2 v), SV.int .i64 (f43_3 v), SV.int .i64 (f43_4 v), SV.int .i64 (f43_5 v), SV.int .u64 (f43_6 v)], SV.int .i64 (f43_7 v)], List.nil, []))
noncomputable def C43 : CF th.R := fnC d43 ofV43 (f43 )
theorem q43 (v : V43) : (evFn th Try.prog (auto th Try.prog nice114n [] 20) (autoH [] [] [] [] : Hints th) 43) (A43 v) (H43 v) = some (ff43 v) := by kernel_rfl
theorem qg43 (v : V43) : ((ff43 v).map (setD [])).get = (f43 v).get := by kernel_rfl
theorem qd43 (v : V43) : allD 0 [] (ff43 v) = true := by kernel_rfl
theorem s43 : Sound Try.prog th 43 (C43 ) := fnC_sound (evFn_sound' (T := th) (P := Try.prog) (tbl := (auto th Try.prog nice114n [] 20)) (auto_sound (nice := nice114n) (us := []) nok114n 20) (H := (autoH [] [] [] [] : Hints th)) (k := 43) (fnLoops (LoopsOk_mem (fun _ => rfl) _ fun _ _ _ e => by cases e))) d43 A43 H43 toV43 (by kernel_rfl) (fun v => by kernel_rfl)
  (fun l v h => by
    unfold ofV43 at h
    split at h
    · cases h; rfl
    · cases h)
  [] (fun v => ⟨ff43 v, q43 v, id, qg43 v, qd43 v⟩)
noncomputable def nice43 : List (Nat × CF th.R) := (43, lift C43) :: nice114n
theorem nok43 : NiceOk Try.prog th nice43 := ⟨lift_sound s43, nok114n⟩
end Go.Sx.M

namespace Go.Sx.M
open Go Go.Sx Go.Proofs Go.RowKit
set_option maxRecDepth 100000
structure V44 where
  k : Int
  a : Int
  b : Int
  r : Int
  g : Int
  s : Int
  m : Int
  x : Int
def A44 (v : V44) : List SV := [.agg [.int .i64 v.k, .int .u64 v.a, .int .i64 v.b, .int .i64 v.r, .int .i64 v.g, .int .i64 v.s, .int .u64 v.m], .int .i64 v.x]
def H44 (v : V44) : List (HO th.R) := []
def toV44 (v : V44) : List (Vl th.R) := [.i v.k, .i v.a, .i v.b, .i v.r, .i v.g, .i v.s, .i v.m, .i v.x]
def ofV44 : List (Vl th.R) → Option V44
  | [.i k, .i a, .i b, .i r, .i g, .i s, .i m, .i x] => some ⟨k, a, b, r, g, s, m, x⟩
  | _ => none
def d44 : Ft := ⟨[.agg [.int .i64, .int .u64, .int .i64, .int .i64, .int .i64, .int .i64, .int .u64], .int .i64], []⟩
noncomputable def f44_0 (v : V44) : (Int) := cnd (!f50_2 v.k v.a v.b v.r v.g v.s v.m) (0 : Int) (cnd (!f118_0 v.x) (0 : Int) (cnd (cnd (cnd (cnd (cnd (v.k != (2 : Int)) (v.k != (3 : Int)) false) (v.k != (5 : Int)) false) (v.k != (8 : Int)) false) (v.k != (9 : Int)) false) (0 : Int) (cnd (cnd (v.k == (5 : Int)) (v.s == (0 : Int)) false) (0 : Int) (cnd (v.k == (3 : Int)) v.k v.k))))
noncomputable def f44_1 (v : V44) : (Int) := cnd (!f50_2 v.k v.a v.b v.r v.g v.s v.m) (0 : Int) (cnd (!f118_0 v.x) (0 : Int) (cnd (cnd (cnd (cnd (cnd (v.k != (2 : Int)) (v.k != (3 : Int)) false) (v.k != (5 : Int)) false) (v.k != (8 : Int)) false) (v.k != (9 : Int)) false) (0 : Int) (cnd (cnd (v.k == (5 : Int)) (v.s == (0 : Int)) false) (0 : Int) (cnd (v.k == (3 : Int)) v.a v.a))))
noncomputable def f44_2 (v : V44) : (Int) := cnd (!f50_2 v.k v.a v.b v.r v.g v.s v.m) (0 : Int) (cnd (!f118_0 v.x) (0 : Int) (cnd (cnd (cnd (cnd (cnd (v.k != (2 : Int)) (v.k != (3 : Int)) false) (v.k != (5 : Int)) false) (v.k != (8 : Int)) false) (v.k != (9 : Int)) false) (0 : Int) (cnd (cnd (v.k == (5 : Int)) (v.s == (0 : Int)) false) (0 : Int) (cnd (v.k == (3 : Int)) v.b v.b))))
noncomputable def f44_3 (v : V44) : (Int) := cnd (!f50_2 v.k v.a v.b v.r v.g v.s v.m) (0 : Int) (cnd (!f118_0 v.x) (0 : Int) (cnd (cnd (cnd (cnd (cnd (v.k != (2 : Int)) (v.k != (3 : Int)) false) (v.k != (5 : Int)) false) (v.k != (8 : Int)) false) (v.k != (9 : Int)) false) (0 : Int) (cnd (cnd (v.k == (5 : Int)) (v.s == (0 : Int)) false) (0 : Int) (cnd (v.k == (3 : Int)) (f46_9 v.r v.x) (f46_9 v.r v.x)))))
noncomputable def f44_4 (v : V44) : (Int) := cnd (!f50_2 v.k v.a v.b v.r v.g v.s v.m) (0 : Int) (cnd (!f118_0 v.x) (0 : Int) (cnd (cnd (cnd (cnd (cnd (v.k != (2 : Int)) (v.k != (3 : Int)) false) (v.k != (5 : Int)) false) (v.k != (8 : Int)) false) (v.k != (9 : Int)) false) (0 : Int) (cnd (cnd (v.k == (5 : Int)) (v.s == (0 : Int)) false) (0 : Int) (cnd (v.k == (3 : Int)) v.g v.g))))
noncomputable def f44_5 (v : V44) : (Int) := cnd (!f50_2 v.k v.a v.b v.r v.g v.s v.m) (0 : Int) (cnd (!f118_0 v.x) (0 : Int) (cnd (cnd (cnd (cnd (cnd (v.k != (2 : Int)) (v.k != (3 : Int)) false) (v.k != (5 : Int)) false) (v.k != (8 : Int)) false) (v.k != (9 : Int)) false) (0 : Int) (cnd (cnd (v.k == (5 : Int)) (v.s == (0 : Int)) false) (0 : Int) (cnd (v.k == (3 : Int)) (0 : Int) v.s))))
noncomputable def f44_6 (v : V44) : (Int) := cnd (!f50_2 v.k v.a v.b v.r v.g v.s v.m) (0 : Int) (cnd (!f118_0 v.x) (0 : Int) (cnd (cnd (cnd (cnd (cnd (v.k != (2 : Int)) (v.k != (3 : Int)) false) (v.k != (5 : Int)) false) (v.k != (8 : Int)) false) (v.k != (9 : Int)) false) (0 : Int) (cnd (cnd (v.k == (5 : Int)) (v.s == (0 : Int)) false) (0 : Int) (cnd (v.k == (3 : Int)) (0 : Int) v.m))))
noncomputable def f44_7 (v : V44) : (Int) := cnd (!f50_2 v.k v.a v.b v.r v.g v.s v.m) (10 : Int) (cnd (!f118_0 v.x) (21 : Int) (cnd (cnd (cnd (cnd (cnd (v.k != (2 : Int)) (v.k != (3 : Int)) false) (v.k != (5 : Int)) false) (v.k != (8 : Int)) false) (v.k != (9 : Int)) false) (20 : Int) (cnd (cnd (v.k == (5 : Int)) (v.s == (0 : Int)) false) (31 : Int) (0 : Int))))
noncomputable def ff44 (v : V44) : Tr (Fin th.R) := (Tr.leaf (SV.tup [SV.agg [SV.int .i64 (f44_0 v), SV.int .u64 (f44_1 v), SV.int .i64 (f44_2 v), SV.int .i64 (f44_3 v), SV.int .i64 (f44_4 v), SV.int .i64 (f44_5 v), SV.int .u64 (f44_6 v)], SV.int .i64 (f44_7 v)], List.nil, List.nil))
noncomputable def f44 (v : V44) : Tr (Fin th.R) := (Tr.leaf (SV.tup [SV.agg [SV.int .i64 (f44_0 v), SV.int .u64 (f44_1 v), SV.int .i64 (f44_2 v), SV.int .i64 (f44_3 v), SV.int .i64 (f44_4 v), SV.int .i64 (f44_5 v), SV.int .u64 (f44_6 v)], SV.int .i64 (f44_7 v)], List.nil, []))
noncomputable def C44 : CF th.R := fnC d44 ofV44 (f44 )
theorem q44 (v : V44) : (evFn th Try.prog (auto th Try.prog nice43 [] 20) (autoH [] [] [] [] : Hints th) 44) (A44 v) (H44 v) = some (ff44 v) := by kernel_rfl
theorem qg44 (v : V44) : ((ff44 v).map (setD [])).get = (f44 v).get := by kernel_rfl
theorem qd44 (v : V44) : allD 0 [] (ff44 v) = true := by kernel_rfl
theorem s44 : Sound Try.prog th 44 (C44 ) := fnC_sound (evFn_sound' (T := th) (P := Try.prog) (tbl := (auto th Try.prog nice43 [] 20)) (auto_sound (nice := nice43) (us := []) nok43 20) (H := (autoH [] [] [] [] : Hints th)) (k := 44) (fnLoops (LoopsOk_mem (fun _ => rfl) _ fun _ _ _ e => by cases e))) d44 A44 H44 toV44 (by kernel_rfl) (fun v => by kernel_rfl)
  (fun l v h => by
    unfold ofV44 at h
    split at h
    · cases h; rfl
    · cases h)
  [] (fun v => ⟨ff44 v, q44 v, id, qg44 v, qd44 v⟩)
noncomputable def nice44 : List (Nat × CF th.R) := (44, lift C44) :: nice43
theorem nok44 : NiceOk Try.prog th nice44 := ⟨lift_sound s44, nok43⟩
end Go.Sx.M

namespace Go.Sx.M
open Go Go.Sx Go.Proofs Go.RowKit
set_option maxRecDepth 100000
structure V47 where
  k : Int
  a : Int
  b : Int
  r : Int
  g : Int
  s : Int
  m : Int
  x : Int
def A47 (v : V47) : List SV := [.agg [.int .i64 v.k, .int .u64 v.a, .int .i64 v.b, .int .i64 v.r, .int .i64 v.g, .int .i64 v.s, .int .u64 v.m], .int .u64 v.x]
def H47 (v : V47) : List (HO th.R) := []
def toV47 (v : V47) : List (Vl th.R) := [.i v.k, .i v.a, .i v.b, .i v.r, .i v.g, .i v.s, .i v.m, .i v.x]
def ofV47 : List (Vl th.R) → Option V47
  | [.i k, .i a, .i b, .i r, .i g, .i s, .i m, .i x] => some ⟨k, a, b, r, g, s, m, x⟩
  | _ => none
def d47 : Ft := ⟨[.agg [.int .i64, .int .u64, .int .i64, .int .i64, .int .i64, .int .i64, .int .u64], .int .u64], []⟩
noncomputable def f47_9 (v : V47) : (Bool) := !f45_1 v.k v.a v.b v.r v.g v.s v.m
noncomputable def f47_10 (v : V47) : (Bool) := cnd (v.k == (9 : Int)) (v.m != (0 : Int)) false
noncomputable def f47_11 (v : V47) : (Int) := cnd (v.k == (9 : Int)) v.k (cnd (v.k == (2 : Int)) v.k v.k)
noncomputable def f47_12 (v : V47) : (Int) := cnd (v.k == (9 : Int)) v.a (cnd (v.k == (2 : Int)) v.a v.a)
noncomputable def f47_13 (v : V47) : (Int) := cnd (v.k == (9 : Int)) v.b (cnd (v.k == (2 : Int)) v.b v.b)
noncomputable def f47_14 (v : V47) : (Int) := cnd (v.k == (9 : Int)) v.r (cnd (v.k == (2 : Int)) v.r v.r)
noncomputable def f47_15 (v : V47) : (Int) := cnd (v.k == (9 : Int)) v.g (cnd (v.k == (2 : Int)) (IntKind.i64.wrap (Go.bits Go.BinOp.and IntKind.u64 v.x (63 : Int))) v.g)
noncomputable def f47_16 (v : V47) : (Int) := cnd (v.k == (9 : Int)) v.s (cnd (v.k == (2 : Int)) v.s v.s)
noncomputable def f47_17 (v : V47) : (Int) := cnd (v.k == (9 : Int)) v.x (cnd (v.k == (2 : Int)) (v.x.fdiv (64 : Int)) v.m)
noncomputable def f47_0 (v : V47) : (Prop) := f47_9 v = false → f47_10 v = false → (v.k == (9 : Int)) = false → (v.k == (2 : Int)) = true → (0 : Int) ≤ (6 : Int)
noncomputable def f47_1 (v : V47) : (Int) := cnd (f47_9 v) (0 : Int) (cnd (f47_10 v) (0 : Int) (cnd (cnd (v.k == (9 : Int)) false (cnd (v.k == (2 : Int)) false (v.x != (0 : Int)))) (0 : Int) (cnd (!f45_1 (f47_11 v) (f47_12 v) (f47_13 v) (f47_14 v) (f47_15 v) (f47_16 v) (f47_17 v)) (0 : Int) (f47_11 v))))
noncomputable def f47_2 (v : V47) : (Int) := cnd (f47_9 v) (0 : Int) (cnd (f47_10 v) (0 : Int) (cnd (cnd (v.k == (9 : Int)) false (cnd (v.k == (2 : Int)) false (v.x != (0 : Int)))) (0 : Int) (cnd (!f45_1 (f47_11 v) (f47_12 v) (f47_13 v) (f47_14 v) (f47_15 v) (f47_16 v) (f47_17 v)) (0 : Int) (f47_12 v))))
noncomputable def f47_3 (v : V47) : (Int) := cnd (f47_9 v) (0 : Int) (cnd (f47_10 v) (0 : Int) (cnd (cnd (v.k == (9 : Int)) false (cnd (v.k == (2 : Int)) false (v.x != (0 : Int)))) (0 : Int) (cnd (!f45_1 (f47_11 v) (f47_12 v) (f47_13 v) (f47_14 v) (f47_15 v) (f47_16 v) (f47_17 v)) (0 : Int) (f47_13 v))))
noncomputable def f47_4 (v : V47) : (Int) := cnd (f47_9 v) (0 : Int) (cnd (f47_10 v) (0 : Int) (cnd (cnd (v.k == (9 : Int)) false (cnd (v.k == (2 : Int)) false (v.x != (0 : Int)))) (0 : Int) (cnd (!f45_1 (f47_11 v) (f47_12 v) (f47_13 v) (f47_14 v) (f47_15 v) (f47_16 v) (f47_17 v)) (0 : Int) (f47_14 v))))
noncomputable def f47_5 (v : V47) : (Int) := cnd (f47_9 v) (0 : Int) (cnd (f47_10 v) (0 : Int) (cnd (cnd (v.k == (9 : Int)) false (cnd (v.k == (2 : Int)) false (v.x != (0 : Int)))) (0 : Int) (cnd (!f45_1 (f47_11 v) (f47_12 v) (f47_13 v) (f47_14 v) (f47_15 v) (f47_16 v) (f47_17 v)) (0 : Int) (f47_15 v))))
noncomputable def f47_6 (v : V47) : (Int) := cnd (f47_9 v) (0 : Int) (cnd (f47_10 v) (0 : Int) (cnd (cnd (v.k == (9 : Int)) false (cnd (v.k == (2 : Int)) false (v.x != (0 : Int)))) (0 : Int) (cnd (!f45_1 (f47_11 v) (f47_12 v) (f47_13 v) (f47_14 v) (f47_15 v) (f47_16 v) (f47_17 v)) (0 : Int) (f47_16 v))))
noncomputable def f47_7 (v : V47) : (Int) := cnd (f47_9 v) (0 : Int) (cnd (f47_10 v) (0 : Int) (cnd (cnd (v.k == (9 : Int)) false (cnd (v.k == (2 : Int)) false (v.x != (0 : Int)))) (0 : Int) (cnd (!f45_1 (f47_11 v) (f47_12 v) (f47_13 v) (f47_14 v) (f47_15 v) (f47_16 v) (f47_17 v)) (0 : Int) (f47_17 v))))
noncomputable def f47_8 (v : V47) : (Int) := cnd (f47_9 v) (10 : Int) (cnd (f47_10 v) (21 : Int) (cnd (cnd (v.k == (9 : Int)) false (cnd (v.k == (2 : Int)) false (v.x != (0 : Int)))) (10 : Int) (cnd (!f45_1 (f47_11 v) (f47_12 v) (f47_13 v) (f47_14 v) (f47_15 v) (f47_16 v) (f47_17 v)) (10 : Int) (0 : Int))))
theorem n_f47_0 (v : V47) : f47_0 v := by
  unfold f47_0
  first
    | (intros; rfl)
    | (intro i; rfl)
    | (intro i _; rfl)
    | (intro _ i; rfl)
    | (intro _ i _; rfl)
    | (refine ⟨?_, ?_⟩ <;> intro i <;> rfl)
    | (refine ⟨?_, ?_, ?_⟩ <;> intro i <;> rfl)
    | (refine ⟨?_, ?_⟩ <;> intro i _ <;> rfl)
    | (repeat' apply And.intro) <;> first | (intro i; rfl) | (intro i _; rfl) | (intro i h; exact absurd h (Nat.not_lt_zero i)) | (intro i; exact scpL_rowSet (by rfl) (by rfl)) | (intro i; exact scpL_rowEl (by kernel_rfl) _)
    | (intros; (repeat' apply And.intro) <;> intros <;> first | rfl | (exact absurd (by assumption) (Nat.not_lt_zero _)))
    | omega
    | decide
noncomputable def ff47 (v : V47) : Tr (Fin th.R) := (Tr.need (f47_0 v) (Tr.leaf (SV.tup [SV.agg [SV.int .i64 (f47_1 v), SV.int .u64 (f47_2 v), SV.int .i64 (f47_3 v), SV.int .i64 (f47_4 v), SV.int .i64 (f47_5 v), SV.int .i64 (f47_6 v), SV.int .u64 (f47_7 v)], SV.int .i64 (f47_8 v)], List.nil, List.nil)))
noncomputable def f47 (v : V47) : Tr (Fin th.R) := (Tr.leaf (SV.tup [SV.agg [SV.int .i64 (f47_1 v), SV.int .u64 (f47_2 v), SV.int .i64 (f47_3 v), SV.int .i64 (f47_4 v), SV.int .i64 (f47_5 v), SV.int .i64 (f47_6 v), SV.int .u64 (f47_7 v)], SV.int .i64 (f47_8 v)], List.nil, []))
noncomputable def C47 : CF th.R := fnC d47 ofV47 (f47 )
theorem q47 (v : V47) : (evFn th Try.prog (auto th Try.prog nice44 [] 20) (autoH [] [] [] [] : Hints th) 47) (A47 v) (H47 v) = some (ff47 v) := by kernel_rfl
theorem qg47 (v : V47) : ((ff47 v).map (setD [])).get = (f47 v).get := by kernel_rfl
theorem qd47 (v : V47) : allD 0 [] (ff47 v) = true := by kernel_rfl
theorem s47 : Sound Try.prog th 47 (C47 ) := fnC_sound (evFn_sound' (T := th) (P := Try.prog) (tbl := (auto th Try.prog nice44 [] 20)) (auto_sound (nice := nice44) (us := []) nok44 20) (H := (autoH [] [] [] [] : Hints th)) (k := 47) (fnLoops (LoopsOk_mem (fun _ => rfl) _ fun _ _ _ e => by cases e))) d47 A47 H47 toV47 (by kernel_rfl) (fun v => by kernel_rfl)
  (fun l v h => by
    unfold ofV47 at h
    split at h
    · cases h; rfl
    · cases h)
  [] (fun v => ⟨ff47 v, q47 v, fun h => by
    unfold f47 at h; unfold ff47
    simp only [Tr.ok, n_f47_0, true_and, and_true, forall_const, implies_true] at h ⊢
    try exact h, qg47 v, qd47 v⟩)
noncomputable def nice47 : List (Nat × CF th.R) := (47, lift C47) :: nice44
theorem nok47 : NiceOk Try.prog th nice47 := ⟨lift_sound s47, nok44⟩
end Go.Sx.M

namespace Go.Sx.M
open Go Go.Sx Go.Proofs Go.RowKit
set_option maxRecDepth 100000
structure V48 where
  k : Int
  a : Int
  b : Int
  r : Int
  g : Int
  s : Int
  m : Int
  x : Int
def A48 (v : V48) : List SV := [.agg [.int .i64 v.k, .int .u64 v.a, .int .i64 v.b, .int .i64 v.r, .int .i64 v.g, .int .i64 v.s, .int .u64 v.m], .int .u64 v.x]
def H48 (v : V48) : List (HO th.R) := []
def toV48 (v : V48) : List (Vl th.R) := [.i v.k, .i v.a, .i v.b, .i v.r, .i v.g, .i v.s, .i v.m, .i v.x]
def ofV48 : List (Vl th.R) → Option V48
  | [.i k, .i a, .i b, .i r, .i g, .i s, .i m, .i x] => some ⟨k, a, b, r, g, s, m, x⟩
  | _ => none
def d48 : Ft := ⟨[.agg [.int .i64, .int .u64, .int .i64, .int .i64, .int .i64, .int .i64, .int .u64], .int .u64], []⟩
noncomputable def f48_9 (v : V48) : (Bool) := !f50_2 v.k v.a v.b v.r v.g v.s v.m
noncomputable def f48_10 (v : V48) : (Bool) := cnd (v.k == (9 : Int)) (v.m != (0 : Int)) false
noncomputable def f48_0 (v : V48) : (Prop) := f48_9 v = false → f48_10 v = false → (v.k == (9 : Int)) = false → (v.k == (2 : Int)) = true → (64 : Int) ≠ (0 : Int)
noncomputable def f48_1 (v : V48) : (Int) := cnd (f48_9 v) (0 : Int) (cnd (f48_10 v) (0 : Int) (cnd (v.k == (9 : Int)) v.k (cnd (cnd (v.k == (2 : Int)) (!f50_2 v.k v.a v.b v.r (IntKind.i64.wrap (v.x.tmod (64 : Int))) v.s (IntKind.u64.wrap (v.x.tdiv (64 : Int)))) false) (0 : Int) (cnd (v.k == (2 : Int)) v.k (cnd (v.x != (0 : Int)) (0 : Int) v.k)))))
noncomputable def f48_2 (v : V48) : (Int) := cnd (f48_9 v) (0 : Int) (cnd (f48_10 v) (0 : Int) (cnd (v.k == (9 : Int)) v.a (cnd (cnd (v.k == (2 : Int)) (!f50_2 v.k v.a v.b v.r (IntKind.i64.wrap (v.x.tmod (64 : Int))) v.s (IntKind.u64.wrap (v.x.tdiv (64 : Int)))) false) (0 : Int) (cnd (v.k == (2 : Int)) v.a (cnd (v.x != (0 : Int)) (0 : Int) v.a)))))
noncomputable def f48_3 (v : V48) : (Int) := cnd (f48_9 v) (0 : Int) (cnd (f48_10 v) (0 : Int) (cnd (v.k == (9 : Int)) v.b (cnd (cnd (v.k == (2 : Int)) (!f50_2 v.k v.a v.b v.r (IntKind.i64.wrap (v.x.tmod (64 : Int))) v.s (IntKind.u64.wrap (v.x.tdiv (64 : Int)))) false) (0 : Int) (cnd (v.k == (2 : Int)) v.b (cnd (v.x != (0 : Int)) (0 : Int) v.b)))))
noncomputable def f48_4 (v : V48) : (Int) := cnd (f48_9 v) (0 : Int) (cnd (f48_10 v) (0 : Int) (cnd (v.k == (9 : Int)) v.r (cnd (cnd (v.k == (2 : Int)) (!f50_2 v.k v.a v.b v.r (IntKind.i64.wrap (v.x.tmod (64 : Int))) v.s (IntKind.u64.wrap (v.x.tdiv (64 : Int)))) false) (0 : Int) (cnd (v.k == (2 : Int)) v.r (cnd (v.x != (0 : Int)) (0 : Int) v.r)))))
noncomputable def f48_5 (v : V48) : (Int) := cnd (f48_9 v) (0 : Int) (cnd (f48_10 v) (0 : Int) (cnd (v.k == (9 : Int)) v.g (cnd (cnd (v.k == (2 : Int)) (!f50_2 v.k v.a v.b v.r (IntKind.i64.wrap (v.x.tmod (64 : Int))) v.s (IntKind.u64.wrap (v.x.tdiv (64 : Int)))) false) (0 : Int) (cnd (v.k == (2 : Int)) (IntKind.i64.wrap (v.x.tmod (64 : Int))) (cnd (v.x != (0 : Int)) (0 : Int) v.g)))))
noncomputable def f48_6 (v : V48) : (Int) := cnd (f48_9 v) (0 : Int) (cnd (f48_10 v) (0 : Int) (cnd (v.k == (9 : Int)) v.s (cnd (cnd (v.k == (2 : Int)) (!f50_2 v.k v.a v.b v.r (IntKind.i64.wrap (v.x.tmod (64 : Int))) v.s (IntKind.u64.wrap (v.x.tdiv (64 : Int)))) false) (0 : Int) (cnd (v.k == (2 : Int)) v.s (cnd (v.x != (0 : Int)) (0 : Int) v.s)))))
noncomputable def f48_7 (v : V48) : (Int) := cnd (f48_9 v) (0 : Int) (cnd (f48_10 v) (0 : Int) (cnd (v.k == (9 : Int)) v.x (cnd (cnd (v.k == (2 : Int)) (!f50_2 v.k v.a v.b v.r (IntKind.i64.wrap (v.x.tmod (64 : Int))) v.s (IntKind.u64.wrap (v.x.tdiv (64 : Int)))) false) (0 : Int) (cnd (v.k == (2 : Int)) (IntKind.u64.wrap (v.x.tdiv (64 : Int))) (cnd (v.x != (0 : Int)) (0 : Int) v.m)))))
noncomputable def f48_8 (v : V48) : (Int) := cnd (f48_9 v) (10 : Int) (cnd (f48_10 v) (21 : Int) (cnd (v.k == (9 : Int)) (0 : Int) (cnd (cnd (v.k == (2 : Int)) (!f50_2 v.k v.a v.b v.r (IntKind.i64.wrap (v.x.tmod (64 : Int))) v.s (IntKind.u64.wrap (v.x.tdiv (64 : Int)))) false) (10 : Int) (cnd (v.k == (2 : Int)) (0 : Int) (cnd (v.x != (0 : Int)) (10 : Int) (0 : Int))))))
theorem n_f48_0 (v : V48) : f48_0 v := by
  unfold f48_0
  first
    | (intros; rfl)
    | (intro i; rfl)
    | (intro i _; rfl)
    | (intro _ i; rfl)
    | (intro _ i _; rfl)
    | (refine ⟨?_, ?_⟩ <;> intro i <;> rfl)
    | (refine ⟨?_, ?_, ?_⟩ <;> intro i <;> rfl)
    | (refine ⟨?_, ?_⟩ <;> intro i _ <;> rfl)
    | (repeat' apply And.intro) <;> first | (intro i; rfl) | (intro i _; rfl) | (intro i h; exact absurd h (Nat.not_lt_zero i)) | (intro i; exact scpL_rowSet (by rfl) (by rfl)) | (intro i; exact scpL_rowEl (by kernel_rfl) _)
    | (intros; (repeat' apply And.intro) <;> intros <;> first | rfl | (exact absurd (by assumption) (Nat.not_lt_zero _)))
    | omega
    | decide
noncomputable def ff48 (v : V48) : Tr (Fin th.R) := (Tr.need (f48_0 v) (Tr.need (f48_0 v) (Tr.leaf (SV.tup [SV.agg [SV.int .i64 (f48_1 v), SV.int .u64 (f48_2 v), SV.int .i64 (f48_3 v), SV.int .i64 (f48_4 v), SV.int .i64 (f48_5 v), SV.int .i64 (f48_6 v), SV.int .u64 (f48_7 v)], SV.int .i64 (f48_8 v)], List.nil, List.nil))))
noncomputable def f48 (v : V48) : Tr (Fin th.R) := (Tr.leaf (SV.tup [SV.agg [SV.int .i64 (f48_1 v), SV.int .u64 (f48_2 v), SV.int .i64 (f48_3 v), SV.int .i64 (f48_4 v), SV.int .i64 (f48_5 v), SV.int .i64 (f48_6 v), SV.int .u64 (f48_7 v)], SV.int .i64 (f48_8 v)], List.nil, []))
noncomputable def C48 : CF th.R := fnC d48 ofV48 (f48 )
theorem q48 (v : V48) : (evFn th Try.prog (auto th Try.prog nice47 [] 20) (autoH [] [] [] [] : Hints th) 48) (A48 v) (H48 v) = some (ff48 v) := by kernel_rfl
theorem qg48 (v : V48) : ((ff48 v).map (setD [])).get = (f48 v).get := by kernel_rfl
theorem qd48 (v : V48) : allD 0 [] (ff48 v) = true := by kernel_rfl
theorem s48 : Sound Try.prog th 48 (C48 ) := fnC_sound (evFn_sound' (T := th) (P := Try.prog) (tbl := (auto th Try.prog nice47 [] 20)) (auto_sound (nice := nice47) (us := []) nok47 20) (H := (autoH [] [] [] [] : Hints th)) (k := 48) (fnLoops (LoopsOk_mem (fun _ => rfl) _ fun _ _ _ e => by cases e))) d48 A48 H48 toV48 (by kernel_rfl) (fun v => by kernel_rfl)
  (fun l v h => by
    unfold ofV48 at h
    split at h
    · cases h; rfl
    · cases h)
  [] (fun v => ⟨ff48 v, q48 v, fun h => by
    unfold f48 at h; unfold ff48
    simp only [Tr.ok, n_f48_0, true_and, and_true, forall_const, implies_true] at h ⊢
    try exact h, qg48 v, qd48 v⟩)
noncomputable def nice48 : List (Nat × CF th.R) := (48, lift C48) :: nice47
theorem nok48 : NiceOk Try.prog th nice48 := ⟨lift_sound s48, nok47⟩
end Go.Sx.M

namespace Go.Sx.M
open Go Go.Sx Go.Proofs Go.RowKit
set_option maxRecDepth 100000
structure V171 where
  at_ : Int
  f : Int
  c : Int
  M : th.R
def A171 (v : V171) : List SV := [.ptr 0 0, .int .u64 v.at_]
def H171 (v : V171) : List (HO th.R) := [.cells 175 [.ptr 1 0, .int .u64 v.f, .int .i64 v.c], .res v.M]
def toV171 (v : V171) : List (Vl th.R) := [.i v.at_, .i v.f, .i v.c, .r v.M]
def ofV171 : List (Vl th.R) → Option V171
  | [.i at_, .i f, .i c, .r M] => some ⟨at_, f, c, M⟩
  | _ => none
def d171 : Ft := ⟨[.ptr 0 0, .int .u64], [.cells 175 [.ptr 1 0, .int .u64, .int .i64], .res]⟩
noncomputable def f171_0 (v : V171) : (Prop) := pre67 (V67.mk v.at_ v.f v.c v.M)
noncomputable def f171_1 (v : V171) : (Int) := cnd (ldE v.M v.at_ != (0 : Int)) (ld v.M v.at_).k (cnd ((ld v.M v.at_).k == (0 : Int)) (ld v.M v.at_).k (ld v.M v.at_).k)
noncomputable def f171_2 (v : V171) : (Int) := cnd (ldE v.M v.at_ != (0 : Int)) (ld v.M v.at_).a (cnd ((ld v.M v.at_).k == (0 : Int)) (ld v.M v.at_).a (ld v.M v.at_).a)
noncomputable def f171_3 (v : V171) : (Int) := cnd (ldE v.M v.at_ != (0 : Int)) (ld v.M v.at_).b (cnd ((ld v.M v.at_).k == (0 : Int)) (ld v.M v.at_).b (ld v.M v.at_).b)
noncomputable def f171_4 (v : V171) : (Int) := cnd (ldE v.M v.at_ != (0 : Int)) (ld v.M v.at_).r (cnd ((ld v.M v.at_).k == (0 : Int)) (ld v.M v.at_).r (ld v.M v.at_).r)
noncomputable def f171_5 (v : V171) : (Int) := cnd (ldE v.M v.at_ != (0 : Int)) (ld v.M v.at_).g (cnd ((ld v.M v.at_).k == (0 : Int)) (ld v.M v.at_).g (ld v.M v.at_).g)
noncomputable def f171_6 (v : V171) : (Int) := cnd (ldE v.M v.at_ != (0 : Int)) (ld v.M v.at_).s (cnd ((ld v.M v.at_).k == (0 : Int)) (ld v.M v.at_).s (ld v.M v.at_).s)
noncomputable def f171_7 (v : V171) : (Int) := cnd (ldE v.M v.at_ != (0 : Int)) (ld v.M v.at_).m (cnd ((ld v.M v.at_).k == (0 : Int)) (ld v.M v.at_).m (ld v.M v.at_).m)
noncomputable def f171_8 (v : V171) : (Int) := cnd (ldE v.M v.at_ != (0 : Int)) (ldE v.M v.at_) (cnd ((ld v.M v.at_).k == (0 : Int)) (14 : Int) (0 : Int))
noncomputable def ff171 (v : V171) : Tr (Fin th.R) := (Tr.need (f171_0 v) (Tr.leaf (SV.tup [SV.agg [SV.int .i64 (f171_1 v), SV.int .u64 (f171_2 v), SV.int .i64 (f171_3 v), SV.int .i64 (f171_4 v), SV.int .i64 (f171_5 v), SV.int .i64 (f171_6 v), SV.int .u64 (f171_7 v)], SV.int .i64 (f171_8 v)], [(HO.cells (175 : Nat) [(SV.ptr (1 : Nat) (0:Nat)), SV.int .u64 (v.f), SV.int .i64 (v.c)]), HO.res (v.M)], List.nil)))
noncomputable def f171 (v : V171) : Tr (Fin th.R) := (Tr.need (f171_0 v) (Tr.leaf (SV.tup [SV.agg [SV.int .i64 (f171_1 v), SV.int .u64 (f171_2 v), SV.int .i64 (f171_3 v), SV.int .i64 (f171_4 v), SV.int .i64 (f171_5 v), SV.int .i64 (f171_6 v), SV.int .u64 (f171_7 v)], SV.int .i64 (f171_8 v)], [(HO.cells (175 : Nat) [(SV.ptr (1 : Nat) (0:Nat)), SV.int .u64 (v.f), SV.int .i64 (v.c)]), HO.res (v.M)], [])))
noncomputable def C171 : CF th.R := fnC d171 ofV171 (f171 )
theorem q171 (v : V171) : (evFn th Try.prog (auto th Try.prog nice48 [] 20) (autoH [] [] [] [] : Hints th) 171) (A171 v) (H171 v) = some (ff171 v) := by kernel_rfl
theorem qg171 (v : V171) : ((ff171 v).map (setD [])).get = (f171 v).get := by kernel_rfl
theorem qd171 (v : V171) : allD 2 [] (ff171 v) = true := by kernel_rfl
theorem s171 : Sound Try.prog th 171 (C171 ) := fnC_sound (evFn_sound' (T := th) (P := Try.prog) (tbl := (auto th Try.prog nice48 [] 20)) (auto_sound (nice := nice48) (us := []) nok48 20) (H := (autoH [] [] [] [] : Hints th)) (k := 171) (fnLoops (LoopsOk_mem (fun _ => rfl) _ fun _ _ _ e => by cases e))) d171 A171 H171 toV171 (by kernel_rfl) (fun v => by kernel_rfl)
  (fun l v h => by
    unfold ofV171 at h
    split at h
    · cases h; rfl
    · cases h)
  [] (fun v => ⟨ff171 v, q171 v, id, qg171 v, qd171 v⟩)
theorem qdd171 (v : V171) : (f171 v).get.2.2 = [] := by
  rw [← qg171, Tr.map_get]; rfl
end Go.Sx.M

namespace Go.Sx.M
open Go Go.Sx Go.Proofs Go.RowKit
set_option maxRecDepth 100000
def pre171 (v : V171) : Prop := U64 v.at_
theorem n171 (v : V171) (h : pre171 v) : (f171 v).ok ∧ (f171 v).get.1 = .tup [.agg [.int .i64 (ld v.M v.at_).k, .int .u64 (ld v.M v.at_).a, .int .i64 (ld v.M v.at_).b, .int .i64 (ld v.M v.at_).r, .int .i64 (ld v.M v.at_).g, .int .i64 (ld v.M v.at_).s, .int .u64 (ld v.M v.at_).m], .int .i64 (hdE v.M v.at_)] ∧ HOws (f171 v).get.2.1 [HO.cells 175 [.ptr 1 0, .int .u64 (v.f), .int .i64 (v.c)], HO.res v.M] := by
  refine ⟨⟨h, trivial⟩, ?_, .refl _⟩
  simp only [f171, Tr.get, f171_1, f171_2, f171_3, f171_4, f171_5, f171_6, f171_7, cnd_same]
  rfl
noncomputable def f171n (v : V171) : Tr (Fin th.R) := .need (pre171 v) (.leaf (.tup [.agg [.int .i64 (ld v.M v.at_).k, .int .u64 (ld v.M v.at_).a, .int .i64 (ld v.M v.at_).b, .int .i64 (ld v.M v.at_).r, .int .i64 (ld v.M v.at_).g, .int .i64 (ld v.M v.at_).s, .int .u64 (ld v.M v.at_).m], .int .i64 (hdE v.M v.at_)], [.cells 175 [.ptr 1 0, .int .u64 (v.f), .int .i64 (v.c)], .res v.M], []))
theorem s171n : Sound Try.prog th 171 (fnC d171 ofV171 f171n) := fnC_refine s171 fun v h => by
  obtain ⟨hp, _⟩ := h
  obtain ⟨a, b, c⟩ := n171 v hp
  exact ⟨a, b.symm, (qdd171 v).symm, c, by show 2 ≤ 2; decide⟩
noncomputable def nice171n : List (Nat × CF th.R) := (171, lift (fnC d171 ofV171 f171n)) :: nice48
theorem nok171n : NiceOk Try.prog th nice171n := ⟨lift_sound s171n, nok48⟩
end Go.Sx.M

namespace Go.Sx.M
open Go Go.Sx Go.Proofs Go.RowKit
set_option maxRecDepth 100000
structure V115 where
  a : Int
  b : Int
  r : Int
  m : Int
  f : Int
  c : Int
  M : th.R
def A115 (v : V115) : List SV := [.ptr 0 0, .int .u64 v.a, .int .u64 v.b, .int .i64 v.r, .int .u64 v.m]
def H115 (v : V115) : List (HO th.R) := [.cells 175 [.ptr 1 0, .int .u64 v.f, .int .i64 v.c], .res v.M]
def toV115 (v : V115) : List (Vl th.R) := [.i v.a, .i v.b, .i v.r, .i v.m, .i v.f, .i v.c, .r v.M]
def ofV115 : List (Vl th.R) → Option V115
  | [.i a, .i b, .i r, .i m, .i f, .i c, .r M] => some ⟨a, b, r, m, f, c, M⟩
  | _ => none
def d115 : Ft := ⟨[.ptr 0 0, .int .u64, .int .u64, .int .i64, .int .u64], [.cells 175 [.ptr 1 0, .int .u64, .int .i64], .res]⟩
noncomputable def f115_6 (v : V115) : (V43) := V43.mk (ld v.M v.a).k (ld v.M v.a).a (ld v.M v.a).b (ld v.M v.a).r (ld v.M v.a).g (ld v.M v.a).s (ld v.M v.a).m v.r
noncomputable def f115_7 (v : V115) : (Int) := cnd (hdE v.M v.a == (0 : Int)) (f43_7 (f115_6 v)) (hdE v.M v.a)
noncomputable def f115_8 (v : V115) : (Int) := cnd (hdE v.M v.a == (0 : Int)) (f43_0 (f115_6 v)) (ld v.M v.a).k
noncomputable def f115_9 (v : V115) : (Int) := cnd (hdE v.M v.a == (0 : Int)) (f43_1 (f115_6 v)) (ld v.M v.a).a
noncomputable def f115_10 (v : V115) : (Int) := cnd (hdE v.M v.a == (0 : Int)) (f43_2 (f115_6 v)) (ld v.M v.a).b
noncomputable def f115_11 (v : V115) : (Int) := cnd (hdE v.M v.a == (0 : Int)) (f43_3 (f115_6 v)) (ld v.M v.a).r
noncomputable def f115_12 (v : V115) : (Int) := cnd (hdE v.M v.a == (0 : Int)) (f43_4 (f115_6 v)) (ld v.M v.a).g
noncomputable def f115_13 (v : V115) : (Int) := cnd (hdE v.M v.a == (0 : Int)) (f43_5 (f115_6 v)) (ld v.M v.a).s
noncomputable def f115_14 (v : V115) : (Int) := cnd (hdE v.M v.a == (0 : Int)) (f43_6 (f115_6 v)) (ld v.M v.a).m
noncomputable def f115_15 (v : V115) : (V47) := V47.mk (f115_8 v) (f115_9 v) (f115_10 v) (f115_11 v) (f115_12 v) (f115_13 v) (f115_14 v) v.m
noncomputable def f115_16 (v : V115) : (Int) := cnd (f115_7 v == (0 : Int)) (f47_8 (f115_15 v)) (f115_7 v)
noncomputable def f115_17 (v : V115) : (Bool) := f115_16 v != (0 : Int)
noncomputable def f115_18 (v : V115) : (Int) := cnd (f115_7 v == (0 : Int)) (f47_1 (f115_15 v)) (f115_8 v)
noncomputable def f115_19 (v : V115) : (Int) := cnd (f115_7 v == (0 : Int)) (f47_2 (f115_15 v)) (f115_9 v)
noncomputable def f115_20 (v : V115) : (Int) := cnd (f115_7 v == (0 : Int)) (f47_3 (f115_15 v)) (f115_10 v)
noncomputable def f115_21 (v : V115) : (Int) := cnd (f115_7 v == (0 : Int)) (f47_4 (f115_15 v)) (f115_11 v)
noncomputable def f115_22 (v : V115) : (Int) := cnd (f115_7 v == (0 : Int)) (f47_5 (f115_15 v)) (f115_12 v)
noncomputable def f115_23 (v : V115) : (Int) := cnd (f115_7 v == (0 : Int)) (f47_6 (f115_15 v)) (f115_13 v)
noncomputable def f115_24 (v : V115) : (Int) := cnd (f115_7 v == (0 : Int)) (f47_7 (f115_15 v)) (f115_14 v)
noncomputable def f115_25 (v : V115) : (Sl) := Sl.mk (f115_18 v) (f115_19 v) (f115_20 v) (f115_21 v) (f115_22 v) (f115_23 v) (f115_24 v) (0 : Int) (0 : Int) (0 : Int)
noncomputable def f115_26 (v : V115) : (TS) := chT (TS.mk v.M v.f v.c) v.a v.b (f115_25 v)
noncomputable def f115_0 (v : V115) : (Prop) := pre171 (V171.mk v.a v.f v.c v.M)
noncomputable def f115_1 (v : V115) : (Prop) := f115_17 v = false → pre56 (V56.mk v.a v.b (f115_18 v) (f115_19 v) (f115_20 v) (f115_21 v) (f115_22 v) (f115_23 v) (f115_24 v) v.f v.c v.M)
noncomputable def f115_2 (v : V115) : (Int) := cnd (f115_17 v) (f115_16 v) (chE (TS.mk v.M v.f v.c) v.a v.b (f115_25 v))
noncomputable def f115_3 (v : V115) : (Int) := cnd (f115_17 v) v.f (f115_26 v).f
noncomputable def f115_4 (v : V115) : (Int) := cnd (f115_17 v) v.c (f115_26 v).c
noncomputable def f115_5 (v : V115) : (Mem) := mrgM (f115_17 v) v.M (f115_26 v).M
noncomputable def ff115 (v : V115) : Tr (Fin th.R) := (Tr.need (f115_0 v) (Tr.need (f115_1 v) (Tr.leaf (SV.int .i64 (f115_2 v), [(HO.cells (175 : Nat) [(SV.ptr (1 : Nat) (0:Nat)), SV.int .u64 (f115_3 v), SV.int .i64 (f115_4 v)]), HO.res (f115_5 v)], [(0:Nat), (1 : Nat)]))))
noncomputable def f115 (v : V115) : Tr (Fin th.R) := (Tr.need (f115_0 v) (Tr.need (f115_1 v) (Tr.leaf (SV.int .i64 (f115_2 v), [(HO.cells (175 : Nat) [(SV.ptr (1 : Nat) (0:Nat)), SV.int .u64 (f115_3 v), SV.int .i64 (f115_4 v)]), HO.res (f115_5 v)], [0, 1]))))
noncomputable def C115 : CF th.R := fnC d115 ofV115 (f115 )
theorem q115 (v : V115) : (evFn th Try.prog (auto th Try.prog nice171n [] 20) (autoH [] [] [] [] : Hints th) 115) (A115 v) (H115 v) = some (ff115 v) := by kernel_rfl
theorem qg115 (v : V115) : ((ff115 v).map (setD [0, 1])).get = (f115 v).get := by kernel_rfl
theorem qd115 (v : V115) : allD 2 [0, 1] (ff115 v) = true := by kernel_rfl
theorem s115 : Sound Try.prog th 115 (C115 ) := fnC_sound (evFn_sound' (T := th) (P := Try.prog) (tbl := (auto th Try.prog nice171n [] 20)) (auto_sound (nice := nice171n) (us := []) nok171n 20) (H := (autoH [] [] [] [] : Hints th)) (k := 115) (fnLoops (LoopsOk_mem (fun _ => rfl) _ fun _ _ _ e => by cases e))) d115 A115 H115 toV115 (by kernel_rfl) (fun v => by kernel_rfl)
  (fun l v h => by
    unfold ofV115 at h
    split at h
    · cases h; rfl
    · cases h)
  [0, 1] (fun v => ⟨ff115 v, q115 v, id, qg115 v, qd115 v⟩)
theorem qdd115 (v : V115) : (f115 v).get.2.2 = [0, 1] := by
  rw [← qg115, Tr.map_get]; rfl
end Go.Sx.M

namespace Go.Sx.M
open Go Go.Sx Go.Proofs Go.RowKit
theorem r07 {a : Int} (h : f116_0 a = true) : a = 0 ∨ a = 1 ∨ a = 2 ∨ a = 3 ∨ a = 4 ∨ a = 5 ∨ a = 6 ∨ a = 7 := by
  simp only [f116_0, cnd_and, Bool.and_eq_true, decide_eq_true_eq] at h
  omega
theorem meet_all : ∀ i, i < 8 → ∀ j, j < 8 → f117_0 (i : Nat) (j : Nat) = f46_9 (i : Nat) (j : Nat) ∧ 0 ≤ f117_0 (i : Nat) (j : Nat) ∧ f117_0 (i : Nat) (j : Nat) ≤ 7 := by decide +kernel
theorem meet_eq {a b : Int} (ha : f116_0 a = true) (hb : f116_0 b = true) : f117_0 a b = f46_9 a b ∧ 0 ≤ f117_0 a b ∧ f117_0 a b ≤ 7 := by
  have h1 : 0 ≤ a ∧ a < 8 := by have := r07 ha; omega
  have h2 : 0 ≤ b ∧ b < 8 := by have := r07 hb; omega
  have := meet_all a.toNat (by omega) b.toNat (by omega)
  rw [Int.toNat_of_nonneg h1.1, Int.toNat_of_nonneg h2.1] at this
  exact this
theorem meet_I (a b : Int) : I64 (f117_0 a b) := by
  by_cases h : f116_0 a = true ∧ f116_0 b = true
  · have := meet_eq h.1 h.2
    unfold I64
    omega
  · have : f117_0 a b = 0 := by
      unfold f117_0
      cases h1 : f116_0 a
      · rfl
      · cases h2 : f116_0 b
        · rfl
        · exact absurd ⟨h1, h2⟩ h
    rw [this]
    exact i0
/-- The copy of a capability, its mark. -/
noncomputable def drC (z : Sl) (r : Int) : Sl := ⟨f43_0 ⟨z.k, z.a, z.b, z.r, z.g, z.s, z.m, r⟩, f43_1 ⟨z.k, z.a, z.b, z.r, z.g, z.s, z.m, r⟩, f43_2 ⟨z.k, z.a, z.b, z.r, z.g, z.s, z.m, r⟩, f43_3 ⟨z.k, z.a, z.b, z.r, z.g, z.s, z.m, r⟩,
  f43_4 ⟨z.k, z.a, z.b, z.r, z.g, z.s, z.m, r⟩, f43_5 ⟨z.k, z.a, z.b, z.r, z.g, z.s, z.m, r⟩, f43_6 ⟨z.k, z.a, z.b, z.r, z.g, z.s, z.m, r⟩, 0, 0, 0⟩
noncomputable def drE (z : Sl) (r : Int) : Int := f43_7 ⟨z.k, z.a, z.b, z.r, z.g, z.s, z.m, r⟩
noncomputable def mkC (z : Sl) (x : Int) : Sl := ⟨f47_1 ⟨z.k, z.a, z.b, z.r, z.g, z.s, z.m, x⟩, f47_2 ⟨z.k, z.a, z.b, z.r, z.g, z.s, z.m, x⟩, f47_3 ⟨z.k, z.a, z.b, z.r, z.g, z.s, z.m, x⟩, f47_4 ⟨z.k, z.a, z.b, z.r, z.g, z.s, z.m, x⟩,
  f47_5 ⟨z.k, z.a, z.b, z.r, z.g, z.s, z.m, x⟩, f47_6 ⟨z.k, z.a, z.b, z.r, z.g, z.s, z.m, x⟩, f47_7 ⟨z.k, z.a, z.b, z.r, z.g, z.s, z.m, x⟩, 0, 0, 0⟩
noncomputable def mkE (z : Sl) (x : Int) : Int := f47_8 ⟨z.k, z.a, z.b, z.r, z.g, z.s, z.m, x⟩
theorem drC_R {z : Sl} (h : SlR z) (r : Int) : SlR (drC z r) := by
  refine ⟨?_, ?_, ?_, ?_, ?_, ?_, ?_, u0, u0, i0⟩ <;> simp only [drC, f43_0, f43_1, f43_2, f43_3, f43_4, f43_5, f43_6] <;>
    (repeat' first | exact i0 | exact u0 | exact h.k | exact h.a | exact h.b | exact h.r | exact h.g | exact h.s | exact h.m | exact meet_I _ _ | apply cnd_ind)
theorem mkC_R {z : Sl} (h : SlR z) {x : Int} (hx : U64 x) : SlR (mkC z x) := by
  have hd : U64 (x.fdiv 64) := by
    have : x.fdiv 64 = x / 64 := Int.fdiv_eq_ediv_of_nonneg _ (by omega)
    rw [this]
    unfold U64 at *
    omega
  refine ⟨?_, ?_, ?_, ?_, ?_, ?_, ?_, u0, u0, i0⟩ <;> simp only [mkC, f47_1, f47_2, f47_3, f47_4, f47_5, f47_6, f47_7, f47_11, f47_12, f47_13, f47_14, f47_15, f47_16, f47_17] <;>
    (repeat' first | exact i0 | exact u0 | exact h.k | exact h.a | exact h.b | exact h.r | exact h.g | exact h.s | exact h.m | exact hx | exact hd | exact wrapI _ | apply cnd_ind)
def selS (c : Bool) (A B : Sl) : Sl := ⟨cnd c A.k B.k, cnd c A.a B.a, cnd c A.b B.b, cnd c A.r B.r, cnd c A.g B.g, cnd c A.s B.s, cnd c A.m B.m, 0, 0, 0⟩
theorem selS_R {c : Bool} {A B : Sl} (hA : SlR A) (hB : SlR B) : SlR (selS c A B) :=
  ⟨cnd_ind hA.k hB.k, cnd_ind hA.a hB.a, cnd_ind hA.b hB.b, cnd_ind hA.r hB.r, cnd_ind hA.g hB.g, cnd_ind hA.s hB.s, cnd_ind hA.m hB.m, u0, u0, i0⟩
noncomputable def mn1E (t : TS) (a r : Int) : Int := cnd (hdE t.M a == 0) (drE (ld t.M a) r) (hdE t.M a)
noncomputable def mn1 (t : TS) (a r : Int) : Sl := selS (hdE t.M a == 0) (drC (ld t.M a) r) (ld t.M a)
noncomputable def mn2E (t : TS) (a r x : Int) : Int := cnd (mn1E t a r == 0) (mkE (mn1 t a r) x) (mn1E t a r)
noncomputable def mn2 (t : TS) (a r x : Int) : Sl := selS (mn1E t a r == 0) (mkC (mn1 t a r) x) (mn1 t a r)
noncomputable def mnE (t : TS) (a b r x : Int) : Int := cnd (mn2E t a r x != 0) (mn2E t a r x) (chE t a b (mn2 t a r x))
noncomputable def mnT (t : TS) (a b r x : Int) : TS := ⟨mrgM (mn2E t a r x != 0) t.M (chT t a b (mn2 t a r x)).M, cnd (mn2E t a r x != 0) t.f (chT t a b (mn2 t a r x)).f, cnd (mn2E t a r x != 0) t.c (chT t a b (mn2 t a r x)).c⟩
theorem mn2_R {t : TS} (h : TR t) {a r x : Int} (hx : U64 x) : SlR (mn2 t a r x) :=
  have h1 : SlR (mn1 t a r) := selS_R (drC_R (ld_SlR h.1 _) _) (ld_SlR h.1 _)
  selS_R (mkC_R h1 hx) h1
theorem mnT_R {t : TS} (h : TR t) {a b r x : Int} (ha : U64 a) (hb : U64 b) (hx : U64 x) : TR (mnT t a b r x) := by
  have h1 := chT_R h ha hb (mn2_R h hx (a := a) (r := r))
  exact ⟨mrg_ind (fun _ => h.1) fun _ => h1.1, cnd_ind h.2.1 h1.2.1, cnd_ind h.2.2 h1.2.2⟩
end Go.Sx.M

namespace Go.Sx.M
open Go Go.Sx Go.Proofs Go.RowKit
set_option maxRecDepth 100000
def pre115 (v : V115) : Prop := (U64 v.a ∧ U64 v.b ∧ U64 v.m) ∧ TR (TS.mk v.M v.f v.c)
theorem n115 (v : V115) (h : pre115 v) : (f115 v).ok ∧ (f115 v).get.1 = .int .i64 (mnE (TS.mk v.M v.f v.c) v.a v.b v.r v.m) ∧ HOws (f115 v).get.2.1 [HO.cells 175 [.ptr 1 0, .int .u64 ((mnT (TS.mk v.M v.f v.c) v.a v.b v.r v.m).f), .int .i64 ((mnT (TS.mk v.M v.f v.c) v.a v.b v.r v.m).c)], HO.res (mnT (TS.mk v.M v.f v.c) v.a v.b v.r v.m).M] := by
  obtain ⟨⟨a0, a1, a2⟩, a3⟩ := h
  exact ⟨⟨a0, fun _ => ⟨⟨a0, a1⟩, mn2_R a3 a2, a3⟩, trivial⟩, rfl, .refl _⟩
noncomputable def f115n (v : V115) : Tr (Fin th.R) := .need (pre115 v) (.leaf (.int .i64 (mnE (TS.mk v.M v.f v.c) v.a v.b v.r v.m), [.cells 175 [.ptr 1 0, .int .u64 ((mnT (TS.mk v.M v.f v.c) v.a v.b v.r v.m).f), .int .i64 ((mnT (TS.mk v.M v.f v.c) v.a v.b v.r v.m).c)], .res (mnT (TS.mk v.M v.f v.c) v.a v.b v.r v.m).M], [0, 1]))
theorem s115n : Sound Try.prog th 115 (fnC d115 ofV115 f115n) := fnC_refine s115 fun v h => by
  obtain ⟨hp, _⟩ := h
  obtain ⟨a, b, c⟩ := n115 v hp
  exact ⟨a, b.symm, (qdd115 v).symm, c, by show 2 ≤ 2; decide⟩
noncomputable def nice115n : List (Nat × CF th.R) := (115, lift (fnC d115 ofV115 f115n)) :: nice171n
theorem nok115n : NiceOk Try.prog th nice115n := ⟨lift_sound s115n, nok171n⟩
end Go.Sx.M

namespace Go.Sx.M
open Go Go.Sx Go.Proofs Go.RowKit
set_option maxRecDepth 100000
structure V42 where
def A42 (v : V42) : List SV := []
def H42 (v : V42) : List (HO th.R) := []
def toV42 (v : V42) : List (Vl th.R) := []
def ofV42 : List (Vl th.R) → Option V42
  | [] => some ⟨⟩
  | _ => none
def d42 : Ft := ⟨[], []⟩
noncomputable def f42_0 (v : V42) : (Prop) := ∀ (i : Nat), scpL (0:Nat) (rowEl (1 : Nat) (8 : Nat) (setMany (List.map (fun (i : Nat) => [SV.int IntKind.u64 (0 : Int), SV.int IntKind.i64 (0 : Int), SV.int IntKind.u64 (0 : Int), SV.int IntKind.i64 (0 : Int), SV.int IntKind.i64 (0 : Int), SV.int IntKind.i64 (0 : Int), SV.int IntKind.i64 (0 : Int), SV.int IntKind.u64 (0 : Int)].getD (i % (8 : Nat)) Inhabited.default) (List.range (8 : Nat))) (0:Nat) (SV.agg (setMany (setMany [SV.int IntKind.u64 (0 : Int), SV.int IntKind.i64 (0 : Int), SV.int IntKind.u64 (0 : Int), SV.int IntKind.i64 (0 : Int), SV.int IntKind.i64 (0 : Int), SV.int IntKind.i64 (0 : Int), SV.int IntKind.i64 (0 : Int), SV.int IntKind.u64 (0 : Int)] (0:Nat) (SV.int IntKind.u64 (256 : Int)).cells) (1 : Nat) (SV.agg (setMany (setMany (setMany [SV.int IntKind.i64 (0 : Int), SV.int IntKind.u64 (0 : Int), SV.int IntKind.i64 (0 : Int), SV.int IntKind.i64 (0 : Int), SV.int IntKind.i64 (0 : Int), SV.int IntKind.i64 (0 : Int), SV.int IntKind.u64 (0 : Int)] (0:Nat) (SV.int IntKind.i64 (9 : Int)).cells) (2 : Nat) (SV.int IntKind.i64 (5 : Int)).cells) (3 : Nat) (SV.int IntKind.i64 (3 : Int)).cells)).cells)).cells) i) = true
noncomputable def f42_1 (v : V42) : (Prop) := ∀ (i : Nat), i < (1 : Nat) → rowEl (1 : Nat) (8 : Nat) (setMany (List.map (fun (i : Nat) => [SV.int IntKind.u64 (0 : Int), SV.int IntKind.i64 (0 : Int), SV.int IntKind.u64 (0 : Int), SV.int IntKind.i64 (0 : Int), SV.int IntKind.i64 (0 : Int), SV.int IntKind.i64 (0 : Int), SV.int IntKind.i64 (0 : Int), SV.int IntKind.u64 (0 : Int)].getD (i % (8 : Nat)) Inhabited.default) (List.range (8 : Nat))) (0:Nat) (SV.agg (setMany (setMany [SV.int IntKind.u64 (0 : Int), SV.int IntKind.i64 (0 : Int), SV.int IntKind.u64 (0 : Int), SV.int IntKind.i64 (0 : Int), SV.int IntKind.i64 (0 : Int), SV.int IntKind.i64 (0 : Int), SV.int IntKind.i64 (0 : Int), SV.int IntKind.u64 (0 : Int)] (0:Nat) (SV.int IntKind.u64 (256 : Int)).cells) (1 : Nat) (SV.agg (setMany (setMany (setMany [SV.int IntKind.i64 (0 : Int), SV.int IntKind.u64 (0 : Int), SV.int IntKind.i64 (0 : Int), SV.int IntKind.i64 (0 : Int), SV.int IntKind.i64 (0 : Int), SV.int IntKind.i64 (0 : Int), SV.int IntKind.u64 (0 : Int)] (0:Nat) (SV.int IntKind.i64 (9 : Int)).cells) (2 : Nat) (SV.int IntKind.i64 (5 : Int)).cells) (3 : Nat) (SV.int IntKind.i64 (3 : Int)).cells)).cells)).cells) i = elC (rowEl (1 : Nat) (8 : Nat) (setMany (List.map (fun (i : Nat) => [SV.int IntKind.u64 (0 : Int), SV.int IntKind.i64 (0 : Int), SV.int IntKind.u64 (0 : Int), SV.int IntKind.i64 (0 : Int), SV.int IntKind.i64 (0 : Int), SV.int IntKind.i64 (0 : Int), SV.int IntKind.i64 (0 : Int), SV.int IntKind.u64 (0 : Int)].getD (i % (8 : Nat)) Inhabited.default) (List.range (8 : Nat))) (0:Nat) (SV.agg (setMany (setMany [SV.int IntKind.u64 (0 : Int), SV.int IntKind.i64 (0 : Int), SV.int IntKind.u64 (0 : Int), SV.int IntKind.i64 (0 : Int), SV.int IntKind.i64 (0 : Int), SV.int IntKind.i64 (0 : Int), SV.int IntKind.i64 (0 : Int), SV.int IntKind.u64 (0 : Int)] (0:Nat) (SV.int IntKind.u64 (256 : Int)).cells) (1 : Nat) (SV.agg (setMany (setMany (setMany [SV.int IntKind.i64 (0 : Int), SV.int IntKind.u64 (0 : Int), SV.int IntKind.i64 (0 : Int), SV.int IntKind.i64 (0 : Int), SV.int IntKind.i64 (0 : Int), SV.int IntKind.i64 (0 : Int), SV.int IntKind.u64 (0 : Int)] (0:Nat) (SV.int IntKind.i64 (9 : Int)).cells) (2 : Nat) (SV.int IntKind.i64 (5 : Int)).cells) (3 : Nat) (SV.int IntKind.i64 (3 : Int)).cells)).cells)).cells)) (0:Nat) [Ck.int IntKind.u64, Ck.int IntKind.i64, Ck.int IntKind.u64, Ck.int IntKind.i64, Ck.int IntKind.i64, Ck.int IntKind.i64, Ck.int IntKind.i64, Ck.int IntKind.u64] i
noncomputable def f42_2 (v : V42) : (Prop) := pre114 (V114.mk (1 : Nat) (1 : Nat) (fun (j : Nat) => (256 : Int)) (fun (j : Nat) => (9 : Int)) (fun (j : Nat) => (0 : Int)) (fun (j : Nat) => (5 : Int)) (fun (j : Nat) => (3 : Int)) (fun (j : Nat) => (0 : Int)) (fun (j : Nat) => (0 : Int)) fun (j : Nat) => (0 : Int))
noncomputable def f42_3 (v : V42) : (Prop) := (∀ (i : Nat), scpL (0:Nat) (rowEl (1 : Nat) (8 : Nat) (setMany (List.map (fun (i : Nat) => [SV.int IntKind.u64 (0 : Int), SV.int IntKind.i64 (0 : Int), SV.int IntKind.u64 (0 : Int), SV.int IntKind.i64 (0 : Int), SV.int IntKind.i64 (0 : Int), SV.int IntKind.i64 (0 : Int), SV.int IntKind.i64 (0 : Int), SV.int IntKind.u64 (0 : Int)].getD (i % (8 : Nat)) Inhabited.default) (List.range (8 : Nat))) (0:Nat) (SV.agg (setMany (setMany [SV.int IntKind.u64 (0 : Int), SV.int IntKind.i64 (0 : Int), SV.int IntKind.u64 (0 : Int), SV.int IntKind.i64 (0 : Int), SV.int IntKind.i64 (0 : Int), SV.int IntKind.i64 (0 : Int), SV.int IntKind.i64 (0 : Int), SV.int IntKind.u64 (0 : Int)] (0:Nat) (SV.int IntKind.u64 (256 : Int)).cells) (1 : Nat) (SV.agg (setMany (setMany (setMany [SV.int IntKind.i64 (0 : Int), SV.int IntKind.u64 (0 : Int), SV.int IntKind.i64 (0 : Int), SV.int IntKind.i64 (0 : Int), SV.int IntKind.i64 (0 : Int), SV.int IntKind.i64 (0 : Int), SV.int IntKind.u64 (0 : Int)] (0:Nat) (SV.int IntKind.i64 (9 : Int)).cells) (2 : Nat) (SV.int IntKind.i64 (5 : Int)).cells) (3 : Nat) (SV.int IntKind.i64 (3 : Int)).cells)).cells)).cells) i) = true) ∧ ∀ (i : Nat), scpL (0:Nat) ((fun (j : Nat) => ndC (gN (opS (nds (ndf (fun (j : Nat) => (256 : Int)) (fun (j : Nat) => (9 : Int)) (fun (j : Nat) => (0 : Int)) (fun (j : Nat) => (5 : Int)) (fun (j : Nat) => (3 : Int)) (fun (j : Nat) => (0 : Int)) (fun (j : Nat) => (0 : Int)) (fun (j : Nat) => (0 : Int)) fun (j : Nat) => (0 : Int)) (1 : Nat))).snd j)) i) = true
noncomputable def f42_4 (v : V42) : (Prop) := true = true → pre115 (V115.mk (256 : Int) (288 : Int) (1 : Int) (5 : Int) (256 : Int) (1 : Int) (opS (nds (ndf (fun (j : Nat) => (256 : Int)) (fun (j : Nat) => (9 : Int)) (fun (j : Nat) => (0 : Int)) (fun (j : Nat) => (5 : Int)) (fun (j : Nat) => (3 : Int)) (fun (j : Nat) => (0 : Int)) (fun (j : Nat) => (0 : Int)) (fun (j : Nat) => (0 : Int)) fun (j : Nat) => (0 : Int)) (1 : Nat))).fst.M)
noncomputable def f42_5 (v : V42) : (Prop) := false = false → pre67 (V67.mk (288 : Int) (256 : Int) (2 : Int) (mrgM true (mnT (TS.mk (opS (nds (ndf (fun (j : Nat) => (256 : Int)) (fun (j : Nat) => (9 : Int)) (fun (j : Nat) => (0 : Int)) (fun (j : Nat) => (5 : Int)) (fun (j : Nat) => (3 : Int)) (fun (j : Nat) => (0 : Int)) (fun (j : Nat) => (0 : Int)) (fun (j : Nat) => (0 : Int)) fun (j : Nat) => (0 : Int)) (1 : Nat))).fst.M (256 : Int) (1 : Int)) (256 : Int) (288 : Int) (1 : Int) (5 : Int)).M (opS (nds (ndf (fun (j : Nat) => (256 : Int)) (fun (j : Nat) => (9 : Int)) (fun (j : Nat) => (0 : Int)) (fun (j : Nat) => (5 : Int)) (fun (j : Nat) => (3 : Int)) (fun (j : Nat) => (0 : Int)) (fun (j : Nat) => (0 : Int)) (fun (j : Nat) => (0 : Int)) fun (j : Nat) => (0 : Int)) (1 : Nat))).fst.M))
noncomputable def f42_6 (v : V42) : (Prop) := false = false → true = true → pre115 (V115.mk (288 : Int) (320 : Int) (1 : Int) (5 : Int) (256 : Int) (2 : Int) (mrgM true (mnT (TS.mk (opS (nds (ndf (fun (j : Nat) => (256 : Int)) (fun (j : Nat) => (9 : Int)) (fun (j : Nat) => (0 : Int)) (fun (j : Nat) => (5 : Int)) (fun (j : Nat) => (3 : Int)) (fun (j : Nat) => (0 : Int)) (fun (j : Nat) => (0 : Int)) (fun (j : Nat) => (0 : Int)) fun (j : Nat) => (0 : Int)) (1 : Nat))).fst.M (256 : Int) (1 : Int)) (256 : Int) (288 : Int) (1 : Int) (5 : Int)).M (opS (nds (ndf (fun (j : Nat) => (256 : Int)) (fun (j : Nat) => (9 : Int)) (fun (j : Nat) => (0 : Int)) (fun (j : Nat) => (5 : Int)) (fun (j : Nat) => (3 : Int)) (fun (j : Nat) => (0 : Int)) (fun (j : Nat) => (0 : Int)) (fun (j : Nat) => (0 : Int)) fun (j : Nat) => (0 : Int)) (1 : Nat))).fst.M))
noncomputable def f42_7 (v : V42) : (Prop) := false = false → true = true → pre59 (V59.mk (288 : Int) (256 : Int) (2 : Int) (mrgM true (mnT (TS.mk (mrgM true (mnT (TS.mk (opS (nds (ndf (fun (j : Nat) => (256 : Int)) (fun (j : Nat) => (9 : Int)) (fun (j : Nat) => (0 : Int)) (fun (j : Nat) => (5 : Int)) (fun (j : Nat) => (3 : Int)) (fun (j : Nat) => (0 : Int)) (fun (j : Nat) => (0 : Int)) (fun (j : Nat) => (0 : Int)) fun (j : Nat) => (0 : Int)) (1 : Nat))).fst.M (256 : Int) (1 : Int)) (256 : Int) (288 : Int) (1 : Int) (5 : Int)).M (opS (nds (ndf (fun (j : Nat) => (256 : Int)) (fun (j : Nat) => (9 : Int)) (fun (j : Nat) => (0 : Int)) (fun (j : Nat) => (5 : Int)) (fun (j : Nat) => (3 : Int)) (fun (j : Nat) => (0 : Int)) (fun (j : Nat) => (0 : Int)) (fun (j : Nat) => (0 : Int)) fun (j : Nat) => (0 : Int)) (1 : Nat))).fst.M) (256 : Int) (2 : Int)) (288 : Int) (320 : Int) (1 : Int) (5 : Int)).M (mrgM true (mnT (TS.mk (opS (nds (ndf (fun (j : Nat) => (256 : Int)) (fun (j : Nat) => (9 : Int)) (fun (j : Nat) => (0 : Int)) (fun (j : Nat) => (5 : Int)) (fun (j : Nat) => (3 : Int)) (fun (j : Nat) => (0 : Int)) (fun (j : Nat) => (0 : Int)) (fun (j : Nat) => (0 : Int)) fun (j : Nat) => (0 : Int)) (1 : Nat))).fst.M (256 : Int) (1 : Int)) (256 : Int) (288 : Int) (1 : Int) (5 : Int)).M (opS (nds (ndf (fun (j : Nat) => (256 : Int)) (fun (j : Nat) => (9 : Int)) (fun (j : Nat) => (0 : Int)) (fun (j : Nat) => (5 : Int)) (fun (j : Nat) => (3 : Int)) (fun (j : Nat) => (0 : Int)) (fun (j : Nat) => (0 : Int)) (fun (j : Nat) => (0 : Int)) fun (j : Nat) => (0 : Int)) (1 : Nat))).fst.M)))
theorem n_f42_0 (v : V42) : f42_0 v := by
  unfold f42_0
  first
    | (intros; rfl)
    | (intro i; rfl)
    | (intro i _; rfl)
    | (intro _ i; rfl)
    | (intro _ i _; rfl)
    | (refine ⟨?_, ?_⟩ <;> intro i <;> rfl)
    | (refine ⟨?_, ?_, ?_⟩ <;> intro i <;> rfl)
    | (refine ⟨?_, ?_⟩ <;> intro i _ <;> rfl)
    | (repeat' apply And.intro) <;> first | (intro i; rfl) | (intro i _; rfl) | (intro i h; exact absurd h (Nat.not_lt_zero i)) | (intro i; exact scpL_rowSet (by rfl) (by rfl)) | (intro i; exact scpL_rowEl (by kernel_rfl) _)
    | (intros; (repeat' apply And.intro) <;> intros <;> first | rfl | (exact absurd (by assumption) (Nat.not_lt_zero _)))
    | omega
    | decide
theorem n_f42_1 (v : V42) : f42_1 v := by
  unfold f42_1
  first
    | (intros; rfl)
    | (intro i; rfl)
    | (intro i _; rfl)
    | (intro _ i; rfl)
    | (intro _ i _; rfl)
    | (refine ⟨?_, ?_⟩ <;> intro i <;> rfl)
    | (refine ⟨?_, ?_, ?_⟩ <;> intro i <;> rfl)
    | (refine ⟨?_, ?_⟩ <;> intro i _ <;> rfl)
    | (repeat' apply And.intro) <;> first | (intro i; rfl) | (intro i _; rfl) | (intro i h; exact absurd h (Nat.not_lt_zero i)) | (intro i; exact scpL_rowSet (by rfl) (by rfl)) | (intro i; exact scpL_rowEl (by kernel_rfl) _)
    | (intros; (repeat' apply And.intro) <;> intros <;> first | rfl | (exact absurd (by assumption) (Nat.not_lt_zero _)))
    | omega
    | decide
theorem n_f42_3 (v : V42) : f42_3 v := by
  unfold f42_3
  first
    | (intros; rfl)
    | (intro i; rfl)
    | (intro i _; rfl)
    | (intro _ i; rfl)
    | (intro _ i _; rfl)
    | (refine ⟨?_, ?_⟩ <;> intro i <;> rfl)
    | (refine ⟨?_, ?_, ?_⟩ <;> intro i <;> rfl)
    | (refine ⟨?_, ?_⟩ <;> intro i _ <;> rfl)
    | (repeat' apply And.intro) <;> first | (intro i; rfl) | (intro i _; rfl) | (intro i h; exact absurd h (Nat.not_lt_zero i)) | (intro i; exact scpL_rowSet (by rfl) (by rfl)) | (intro i; exact scpL_rowEl (by kernel_rfl) _)
    | (intros; (repeat' apply And.intro) <;> intros <;> first | rfl | (exact absurd (by assumption) (Nat.not_lt_zero _)))
    | omega
    | decide
noncomputable def ff42 (v : V42) : Tr (Fin th.R) := (Tr.need (f42_0 v) (Tr.need (f42_1 v) (Tr.need (f42_2 v) (Tr.need (f42_3 v) (Tr.need (f42_4 v) (Tr.need (f42_5 v) (Tr.need (f42_6 v) (Tr.need (f42_7 v) (Tr.leaf (SV.bool (true), List.nil, List.nil))))))))))
noncomputable def f42 (v : V42) : Tr (Fin th.R) := (Tr.need (f42_2 v) (Tr.need (f42_4 v) (Tr.need (f42_5 v) (Tr.need (f42_6 v) (Tr.need (f42_7 v) (Tr.leaf (SV.bool (true), List.nil, [])))))))
noncomputable def C42 : CF th.R := fnC d42 ofV42 (f42 )
theorem q42 (v : V42) : (evFn th Try.prog (auto th Try.prog nice115n [] 20) (autoH [] [] [] [] : Hints th) 42) (A42 v) (H42 v) = some (ff42 v) := by kernel_rfl
theorem qg42 (v : V42) : ((ff42 v).map (setD [])).get = (f42 v).get := by kernel_rfl
theorem qd42 (v : V42) : allD 0 [] (ff42 v) = true := by kernel_rfl
theorem s42 : Sound Try.prog th 42 (C42 ) := fnC_sound (evFn_sound' (T := th) (P := Try.prog) (tbl := (auto th Try.prog nice115n [] 20)) (auto_sound (nice := nice115n) (us := []) nok115n 20) (H := (autoH [] [] [] [] : Hints th)) (k := 42) (fnLoops (LoopsOk_mem (fun _ => rfl) _ fun _ _ _ e => by cases e))) d42 A42 H42 toV42 (by kernel_rfl) (fun v => by kernel_rfl)
  (fun l v h => by
    unfold ofV42 at h
    split at h
    · cases h; rfl
    · cases h)
  [] (fun v => ⟨ff42 v, q42 v, fun h => by
    unfold f42 at h; unfold ff42
    simp only [Tr.ok, n_f42_0, n_f42_1, n_f42_3, true_and, and_true, forall_const, implies_true] at h ⊢
    try exact h, qg42 v, qd42 v⟩)
theorem qdd42 (v : V42) : (f42 v).get.2.2 = [] := by
  rw [← qg42, Tr.map_get]; rfl
end Go.Sx.M

namespace Go.Sx.M
open Go Go.Sx Go.Proofs Go.RowKit
set_option maxRecDepth 100000
def pre42 (v : V42) : Prop := True
theorem n42 (v : V42) (h : pre42 v) : (f42 v).ok ∧ (f42 v).get.1 = .bool true ∧ HOws (f42 v).get.2.1 [] := by
  have h0 : ∀ j, j < 1 → U64 256 ∧ SlR (slN (ndf (fun _ => 256) (fun _ => 9) (fun _ => 0) (fun _ => 5) (fun _ => 3) (fun _ => 0) (fun _ => 0) (fun _ => 0) (fun _ => 0) j)) := by
    intro j hj
    obtain rfl : j = 0 := by omega
    (repeat' first | intro _ | apply And.intro | apply SlR.mk) <;> first | trivial | decide
  have u1 : U64 256 := ⟨by decide, by decide⟩
  have u2 : U64 288 := ⟨by decide, by decide⟩
  have u3 : U64 320 := ⟨by decide, by decide⟩
  have u5 : U64 5 := ⟨by decide, by decide⟩
  have g0 := (opS_R (ndf (fun _ => 256) (fun _ => 9) (fun _ => 0) (fun _ => 5) (fun _ => 3) (fun _ => 0) (fun _ => 0) (fun _ => 0) (fun _ => 0)) 1 h0).1
  have g1 : TR ⟨(opS (nds (ndf (fun _ => 256) (fun _ => 9) (fun _ => 0) (fun _ => 5) (fun _ => 3) (fun _ => 0) (fun _ => 0) (fun _ => 0) (fun _ => 0)) 1)).1.M, 256, 1⟩ := ⟨g0, u1, by decide, by decide⟩
  have g2 := mnT_R g1 (a := 256) (b := 288) (r := 1) (x := 5) u1 u2 u5
  refine ⟨⟨⟨⟨rfl, by decide⟩, h0⟩, fun _ => ⟨⟨u1, u2, u5⟩, g1⟩, fun _ => u2, fun _ _ => ⟨⟨u2, u3, u5⟩, ⟨mrg_ind (fun _ => g2.1) (fun e => by cases e), u1, by decide, by decide⟩⟩, fun _ _ => u2, trivial⟩, rfl, .refl _⟩
noncomputable def f42n (v : V42) : Tr (Fin th.R) := .need (pre42 v) (.leaf (.bool true, [], []))
theorem s42n : Sound Try.prog th 42 (fnC d42 ofV42 f42n) := fnC_refine s42 fun v h => by
  obtain ⟨hp, _⟩ := h
  obtain ⟨a, b, c⟩ := n42 v hp
  exact ⟨a, b.symm, (qdd42 v).symm, c, by show 0 ≤ 0; decide⟩
noncomputable def nice42n : List (Nat × CF th.R) := (42, lift (fnC d42 ofV42 f42n)) :: nice115n
theorem nok42n : NiceOk Try.prog th nice42n := ⟨lift_sound s42n, nok115n⟩
end Go.Sx.M

namespace Go.Sx.M
open Go Go.Sx Go.Proofs Go.RowKit
set_option maxRecDepth 100000
structure V36r where
  L : Nat
  Q : Nat
  pt : Nat → Int
  pk : Nat → Int
  pa : Nat → Int
  pb : Nat → Int
  pr : Nat → Int
  pg : Nat → Int
  ps : Nat → Int
  pm : Nat → Int
def A36r (v : V36r) : List SV := [.slc 0 8 0 v.L]
def H36r (v : V36r) : List (HO th.R) := [.row 117 8 v.Q (fun j => [.int .u64 (v.pt j), .int .i64 (v.pk j), .int .u64 (v.pa j), .int .i64 (v.pb j), .int .i64 (v.pr j), .int .i64 (v.pg j), .int .i64 (v.ps j), .int .u64 (v.pm j)])]
def toV36r (v : V36r) : List (Vl th.R) := [.n v.L, .n v.Q, .c v.pt, .c v.pk, .c v.pa, .c v.pb, .c v.pr, .c v.pg, .c v.ps, .c v.pm]
def ofV36r : List (Vl th.R) → Option V36r
  | [.n L, .n Q, .c pt, .c pk, .c pa, .c pb, .c pr, .c pg, .c ps, .c pm] => some ⟨L, Q, pt, pk, pa, pb, pr, pg, ps, pm⟩
  | _ => none
def d36r : Ft := ⟨[.slc0 0 8], [.rowc 117 [.int .u64, .int .i64, .int .u64, .int .i64, .int .i64, .int .i64, .int .i64, .int .u64]]⟩
structure P36r_0 where
  n24 : Nat
  x25 : Int
  N0 : Nat
  F0_0 : Nat → Int
  F0_1 : Nat → Int
  F0_2 : Nat → Int
  F0_3 : Nat → Int
  F0_4 : Nat → Int
  F0_5 : Nat → Int
  F0_6 : Nat → Int
  F0_7 : Nat → Int
  xh1_0 : Int
  xh3_0 : Int
structure S36r_0 where
  x26 : Int
  R2 : th.R
  n6_1 : Nat
  xh4_1 : Int
  xh4_2 : Int
  N5 : Nat
  F5_0 : Nat → Int
  F5_1 : Nat → Int
  F5_2 : Nat → Int
  F5_3 : Nat → Int
  F5_4 : Nat → Int
  F5_5 : Nat → Int
  F5_6 : Nat → Int
  F5_7 : Nat → Int
  F5_8 : Nat → Int
noncomputable instance : Inhabited S36r_0 := ⟨⟨0, dR, 0, 0, 0, 0, fun _ => 0, fun _ => 0, fun _ => 0, fun _ => 0, fun _ => 0, fun _ => 0, fun _ => 0, fun _ => 0, fun _ => 0⟩⟩
def I36r_0 (p : P36r_0) (s : S36r_0) : St th.R := ⟨[none, none, none, some (.ptr 1 0), none, none, some (.ptr 3 0), some (.ptr 4 0), none, none, none, none, none, none, none, none, none, none, none, none, none, none, none, none, some (.slc 0 8 0 p.n24), some (.int .i64 p.x25), some (.int .i64 s.x26), none, none, none, none, none, none, none, none, none, none, none, none, none, none, none, none, none, none, none, none, none], [.row 117 8 p.N0 (fun j => [.int .u64 (p.F0_0 j), .int .i64 (p.F0_1 j), .int .u64 (p.F0_2 j), .int .i64 (p.F0_3 j), .int .i64 (p.F0_4 j), .int .i64 (p.F0_5 j), .int .i64 (p.F0_6 j), .int .u64 (p.F0_7 j)]), .cells 55 [.int .u64 p.xh1_0, .nils], .res s.R2, .cells 55 [.int .u64 p.xh3_0, .slc 5 9 0 s.n6_1], .cells 175 [.ptr 2 0, .int .u64 s.xh4_1, .int .i64 s.xh4_2], .row 100 9 s.N5 (fun j => [.int .u64 (s.F5_0 j), .int .i64 (s.F5_1 j), .int .u64 (s.F5_2 j), .int .i64 (s.F5_3 j), .int .i64 (s.F5_4 j), .int .i64 (s.F5_5 j), .int .i64 (s.F5_6 j), .int .u64 (s.F5_7 j), .int .i64 (s.F5_8 j)])], [], []⟩
def d36r_0 : Lp := ⟨⟨48, [(3, .ptr 1 0), (6, .ptr 3 0), (7, .ptr 4 0), (24, .slc0 0 8), (25, .int .i64), (26, .int .i64)], [.rowc 117 [.int .u64, .int .i64, .int .u64, .int .i64, .int .i64, .int .i64, .int .i64, .int .u64], .cells 55 [.int .u64, .nils], .res, .cells 55 [.int .u64, .slc0 5 9], .cells 175 [.ptr 2 0, .int .u64, .int .i64], .rowc 100 [.int .u64, .int .i64, .int .u64, .int .i64, .int .i64, .int .i64, .int .i64, .int .u64, .int .i64]]⟩, [⟨2006, 100, 9⟩], 5, [2, 3, 4], [3, 6, 7], []⟩
def toV36r_0 (p : P36r_0) (s : S36r_0) : List (Vl th.R) := [.n p.n24, .i p.x25, .i s.x26, .n p.N0, .c p.F0_0, .c p.F0_1, .c p.F0_2, .c p.F0_3, .c p.F0_4, .c p.F0_5, .c p.F0_6, .c p.F0_7, .i p.xh1_0, .r s.R2, .i p.xh3_0, .n s.n6_1, .i s.xh4_1, .i s.xh4_2, .n s.N5, .c s.F5_0, .c s.F5_1, .c s.F5_2, .c s.F5_3, .c s.F5_4, .c s.F5_5, .c s.F5_6, .c s.F5_7, .c s.F5_8]
def ofV36r_0 : List (Vl th.R) → Option (P36r_0 × S36r_0)
  | [.n n24, .i x25, .i x26, .n N0, .c F0_0, .c F0_1, .c F0_2, .c F0_3, .c F0_4, .c F0_5, .c F0_6, .c F0_7, .i xh1_0, .r R2, .i xh3_0, .n n6_1, .i xh4_1, .i xh4_2, .n N5, .c F5_0, .c F5_1, .c F5_2, .c F5_3, .c F5_4, .c F5_5, .c F5_6, .c F5_7, .c F5_8] => some (⟨n24, x25, N0, F0_0, F0_1, F0_2, F0_3, F0_4, F0_5, F0_6, F0_7, xh1_0, xh3_0⟩, ⟨x26, R2, n6_1, xh4_1, xh4_2, N5, F5_0, F5_1, F5_2, F5_3, F5_4, F5_5, F5_6, F5_7, F5_8⟩)
  | _ => none
noncomputable def e36r_0_24 (p : P36r_0) (s : S36r_0) : (Nat) := (0:Nat) + s.x26.toNat
noncomputable def e36r_0_25 (p : P36r_0) (s : S36r_0) : (Int) := p.F0_0 (e36r_0_24 p s)
noncomputable def e36r_0_26 (p : P36r_0) (s : S36r_0) : (Int) := p.F0_1 (e36r_0_24 p s)
noncomputable def e36r_0_27 (p : P36r_0) (s : S36r_0) : (Int) := p.F0_2 (e36r_0_24 p s)
noncomputable def e36r_0_28 (p : P36r_0) (s : S36r_0) : (Int) := p.F0_3 (e36r_0_24 p s)
noncomputable def e36r_0_29 (p : P36r_0) (s : S36r_0) : (Int) := p.F0_4 (e36r_0_24 p s)
noncomputable def e36r_0_30 (p : P36r_0) (s : S36r_0) : (Int) := p.F0_5 (e36r_0_24 p s)
noncomputable def e36r_0_31 (p : P36r_0) (s : S36r_0) : (Int) := p.F0_6 (e36r_0_24 p s)
noncomputable def e36r_0_32 (p : P36r_0) (s : S36r_0) : (Int) := p.F0_7 (e36r_0_24 p s)
noncomputable def e36r_0_33 (p : P36r_0) (s : S36r_0) : (Nat) := (rtL p.xh3_0 (nds (ndf s.F5_0 s.F5_1 s.F5_2 s.F5_3 s.F5_4 s.F5_5 s.F5_6 s.F5_7 s.F5_8) s.n6_1) (Nd.mk (e36r_0_25 p s) (e36r_0_26 p s) (e36r_0_27 p s) (e36r_0_28 p s) (e36r_0_29 p s) (e36r_0_30 p s) (e36r_0_31 p s) (e36r_0_32 p s) (0 : Int))).length
noncomputable def e36r_0_34 (p : P36r_0) (s : S36r_0) : (TS) := rtT (TS.mk s.R2 s.xh4_1 s.xh4_2) (e36r_0_25 p s) (Sl.mk (e36r_0_26 p s) (e36r_0_27 p s) (e36r_0_28 p s) (e36r_0_29 p s) (e36r_0_30 p s) (e36r_0_31 p s) (e36r_0_32 p s) (0 : Int) (0 : Int) (0 : Int))
noncomputable def e36r_0_0 (p : P36r_0) (s : S36r_0) : (Bool) := cnd (decide (s.x26 < p.x25)) false true
noncomputable def e36r_0_1 (p : P36r_0) (s : S36r_0) : (Prop) := (∀ (i : Nat), scpL (0:Nat) ((fun (j : Nat) => [SV.int IntKind.u64 (p.F0_0 j), SV.int IntKind.i64 (p.F0_1 j), SV.int IntKind.u64 (p.F0_2 j), SV.int IntKind.i64 (p.F0_3 j), SV.int IntKind.i64 (p.F0_4 j), SV.int IntKind.i64 (p.F0_5 j), SV.int IntKind.i64 (p.F0_6 j), SV.int IntKind.u64 (p.F0_7 j)]) i) = true) ∧ ∀ (i : Nat), scpL (0:Nat) ((fun (j : Nat) => [SV.int IntKind.u64 (s.F5_0 j), SV.int IntKind.i64 (s.F5_1 j), SV.int IntKind.u64 (s.F5_2 j), SV.int IntKind.i64 (s.F5_3 j), SV.int IntKind.i64 (s.F5_4 j), SV.int IntKind.i64 (s.F5_5 j), SV.int IntKind.i64 (s.F5_6 j), SV.int IntKind.u64 (s.F5_7 j), SV.int IntKind.i64 (s.F5_8 j)]) i) = true
noncomputable def e36r_0_2 (p : P36r_0) (s : S36r_0) : (Prop) := (0 : Int) ≤ s.x26 ∧ s.x26 < (↑p.n24 : Int)
noncomputable def e36r_0_3 (p : P36r_0) (s : S36r_0) : (Prop) := e36r_0_24 p s < p.N0
noncomputable def e36r_0_4 (p : P36r_0) (s : S36r_0) : (Prop) := pre109 (V109.mk (e36r_0_25 p s) (e36r_0_26 p s) (e36r_0_27 p s) (e36r_0_28 p s) (e36r_0_29 p s) (e36r_0_30 p s) (e36r_0_31 p s) (e36r_0_32 p s) s.xh4_1 s.xh4_2 s.R2)
noncomputable def e36r_0_5 (p : P36r_0) (s : S36r_0) : (Prop) := ∀ (i : Nat), scpL (0:Nat) ((fun (j : Nat) => [SV.int IntKind.u64 (s.F5_0 j), SV.int IntKind.i64 (s.F5_1 j), SV.int IntKind.u64 (s.F5_2 j), SV.int IntKind.i64 (s.F5_3 j), SV.int IntKind.i64 (s.F5_4 j), SV.int IntKind.i64 (s.F5_5 j), SV.int IntKind.i64 (s.F5_6 j), SV.int IntKind.u64 (s.F5_7 j), SV.int IntKind.i64 (s.F5_8 j)]) i) = true
noncomputable def e36r_0_6 (p : P36r_0) (s : S36r_0) : (Prop) := ∀ (i : Nat), i < s.N5 → (fun (j : Nat) => [SV.int IntKind.u64 (s.F5_0 j), SV.int IntKind.i64 (s.F5_1 j), SV.int IntKind.u64 (s.F5_2 j), SV.int IntKind.i64 (s.F5_3 j), SV.int IntKind.i64 (s.F5_4 j), SV.int IntKind.i64 (s.F5_5 j), SV.int IntKind.i64 (s.F5_6 j), SV.int IntKind.u64 (s.F5_7 j), SV.int IntKind.i64 (s.F5_8 j)]) i = elC (fun (j : Nat) => [SV.int IntKind.u64 (s.F5_0 j), SV.int IntKind.i64 (s.F5_1 j), SV.int IntKind.u64 (s.F5_2 j), SV.int IntKind.i64 (s.F5_3 j), SV.int IntKind.i64 (s.F5_4 j), SV.int IntKind.i64 (s.F5_5 j), SV.int IntKind.i64 (s.F5_6 j), SV.int IntKind.u64 (s.F5_7 j), SV.int IntKind.i64 (s.F5_8 j)]) (0:Nat) [Ck.int IntKind.u64, Ck.int IntKind.i64, Ck.int IntKind.u64, Ck.int IntKind.i64, Ck.int IntKind.i64, Ck.int IntKind.i64, Ck.int IntKind.i64, Ck.int IntKind.u64, Ck.int IntKind.i64] i
noncomputable def e36r_0_7 (p : P36r_0) (s : S36r_0) : (Prop) := pre110 (V110.mk p.xh3_0 s.n6_1 (e36r_0_25 p s) (e36r_0_26 p s) (e36r_0_27 p s) (e36r_0_28 p s) (e36r_0_29 p s) (e36r_0_30 p s) (e36r_0_31 p s) (e36r_0_32 p s) s.N5 s.F5_0 s.F5_1 s.F5_2 s.F5_3 s.F5_4 s.F5_5 s.F5_6 s.F5_7 s.F5_8)
noncomputable def e36r_0_8 (p : P36r_0) (s : S36r_0) : (Prop) := ∀ (i : Nat), scpL (0:Nat) ((fun (j : Nat) => ndC (gN (rtL p.xh3_0 (nds (ndf s.F5_0 s.F5_1 s.F5_2 s.F5_3 s.F5_4 s.F5_5 s.F5_6 s.F5_7 s.F5_8) s.n6_1) (Nd.mk (e36r_0_25 p s) (e36r_0_26 p s) (e36r_0_27 p s) (e36r_0_28 p s) (e36r_0_29 p s) (e36r_0_30 p s) (e36r_0_31 p s) (e36r_0_32 p s) (0 : Int))) j)) i) = true
noncomputable def e36r_0_9 (p : P36r_0) (s : S36r_0) : (Prop) := ((∀ (i : Nat), scpL (0:Nat) ((fun (j : Nat) => [SV.int IntKind.u64 (p.F0_0 j), SV.int IntKind.i64 (p.F0_1 j), SV.int IntKind.u64 (p.F0_2 j), SV.int IntKind.i64 (p.F0_3 j), SV.int IntKind.i64 (p.F0_4 j), SV.int IntKind.i64 (p.F0_5 j), SV.int IntKind.i64 (p.F0_6 j), SV.int IntKind.u64 (p.F0_7 j)]) i) = true) ∧ ∀ (i : Nat), scpL (0:Nat) ((fun (j : Nat) => ndC (gN (rtL p.xh3_0 (nds (ndf s.F5_0 s.F5_1 s.F5_2 s.F5_3 s.F5_4 s.F5_5 s.F5_6 s.F5_7 s.F5_8) s.n6_1) (Nd.mk (e36r_0_25 p s) (e36r_0_26 p s) (e36r_0_27 p s) (e36r_0_28 p s) (e36r_0_29 p s) (e36r_0_30 p s) (e36r_0_31 p s) (e36r_0_32 p s) (0 : Int))) j)) i) = true) ∧ (∀ (i : Nat), i < p.N0 → (fun (j : Nat) => [SV.int IntKind.u64 (p.F0_0 j), SV.int IntKind.i64 (p.F0_1 j), SV.int IntKind.u64 (p.F0_2 j), SV.int IntKind.i64 (p.F0_3 j), SV.int IntKind.i64 (p.F0_4 j), SV.int IntKind.i64 (p.F0_5 j), SV.int IntKind.i64 (p.F0_6 j), SV.int IntKind.u64 (p.F0_7 j)]) i = elC (fun (j : Nat) => [SV.int IntKind.u64 (p.F0_0 j), SV.int IntKind.i64 (p.F0_1 j), SV.int IntKind.u64 (p.F0_2 j), SV.int IntKind.i64 (p.F0_3 j), SV.int IntKind.i64 (p.F0_4 j), SV.int IntKind.i64 (p.F0_5 j), SV.int IntKind.i64 (p.F0_6 j), SV.int IntKind.u64 (p.F0_7 j)]) (0:Nat) [Ck.int IntKind.u64, Ck.int IntKind.i64, Ck.int IntKind.u64, Ck.int IntKind.i64, Ck.int IntKind.i64, Ck.int IntKind.i64, Ck.int IntKind.i64, Ck.int IntKind.u64] i) ∧ ∀ (i : Nat), i < e36r_0_33 p s → (fun (j : Nat) => ndC (gN (rtL p.xh3_0 (nds (ndf s.F5_0 s.F5_1 s.F5_2 s.F5_3 s.F5_4 s.F5_5 s.F5_6 s.F5_7 s.F5_8) s.n6_1) (Nd.mk (e36r_0_25 p s) (e36r_0_26 p s) (e36r_0_27 p s) (e36r_0_28 p s) (e36r_0_29 p s) (e36r_0_30 p s) (e36r_0_31 p s) (e36r_0_32 p s) (0 : Int))) j)) i = elC (fun (j : Nat) => ndC (gN (rtL p.xh3_0 (nds (ndf s.F5_0 s.F5_1 s.F5_2 s.F5_3 s.F5_4 s.F5_5 s.F5_6 s.F5_7 s.F5_8) s.n6_1) (Nd.mk (e36r_0_25 p s) (e36r_0_26 p s) (e36r_0_27 p s) (e36r_0_28 p s) (e36r_0_29 p s) (e36r_0_30 p s) (e36r_0_31 p s) (e36r_0_32 p s) (0 : Int))) j)) (0:Nat) [Ck.int IntKind.u64, Ck.int IntKind.i64, Ck.int IntKind.u64, Ck.int IntKind.i64, Ck.int IntKind.i64, Ck.int IntKind.i64, Ck.int IntKind.i64, Ck.int IntKind.u64, Ck.int IntKind.i64] i
noncomputable def e36r_0_10 (p : P36r_0) (s : S36r_0) : (Int) := IntKind.i64.wrap (s.x26 + (1 : Int))
noncomputable def e36r_0_11 (p : P36r_0) (s : S36r_0) : (Mem) := (e36r_0_34 p s).M
noncomputable def e36r_0_12 (p : P36r_0) (s : S36r_0) : (Nat) := e36r_0_33 p s
noncomputable def e36r_0_13 (p : P36r_0) (s : S36r_0) : (Int) := (e36r_0_34 p s).f
noncomputable def e36r_0_14 (p : P36r_0) (s : S36r_0) : (Int) := (e36r_0_34 p s).c
noncomputable def e36r_0_15 (p : P36r_0) (s : S36r_0) : Nat → (Int) := fun (j : Nat) => (gN (rtL p.xh3_0 (nds (ndf s.F5_0 s.F5_1 s.F5_2 s.F5_3 s.F5_4 s.F5_5 s.F5_6 s.F5_7 s.F5_8) s.n6_1) (Nd.mk (e36r_0_25 p s) (e36r_0_26 p s) (e36r_0_27 p s) (e36r_0_28 p s) (e36r_0_29 p s) (e36r_0_30 p s) (e36r_0_31 p s) (e36r_0_32 p s) (0 : Int))) j).t
noncomputable def e36r_0_16 (p : P36r_0) (s : S36r_0) : Nat → (Int) := fun (j : Nat) => (gN (rtL p.xh3_0 (nds (ndf s.F5_0 s.F5_1 s.F5_2 s.F5_3 s.F5_4 s.F5_5 s.F5_6 s.F5_7 s.F5_8) s.n6_1) (Nd.mk (e36r_0_25 p s) (e36r_0_26 p s) (e36r_0_27 p s) (e36r_0_28 p s) (e36r_0_29 p s) (e36r_0_30 p s) (e36r_0_31 p s) (e36r_0_32 p s) (0 : Int))) j).k
noncomputable def e36r_0_17 (p : P36r_0) (s : S36r_0) : Nat → (Int) := fun (j : Nat) => (gN (rtL p.xh3_0 (nds (ndf s.F5_0 s.F5_1 s.F5_2 s.F5_3 s.F5_4 s.F5_5 s.F5_6 s.F5_7 s.F5_8) s.n6_1) (Nd.mk (e36r_0_25 p s) (e36r_0_26 p s) (e36r_0_27 p s) (e36r_0_28 p s) (e36r_0_29 p s) (e36r_0_30 p s) (e36r_0_31 p s) (e36r_0_32 p s) (0 : Int))) j).a
noncomputable def e36r_0_18 (p : P36r_0) (s : S36r_0) : Nat → (Int) := fun (j : Nat) => (gN (rtL p.xh3_0 (nds (ndf s.F5_0 s.F5_1 s.F5_2 s.F5_3 s.F5_4 s.F5_5 s.F5_6 s.F5_7 s.F5_8) s.n6_1) (Nd.mk (e36r_0_25 p s) (e36r_0_26 p s) (e36r_0_27 p s) (e36r_0_28 p s) (e36r_0_29 p s) (e36r_0_30 p s) (e36r_0_31 p s) (e36r_0_32 p s) (0 : Int))) j).b
noncomputable def e36r_0_19 (p : P36r_0) (s : S36r_0) : Nat → (Int) := fun (j : Nat) => (gN (rtL p.xh3_0 (nds (ndf s.F5_0 s.F5_1 s.F5_2 s.F5_3 s.F5_4 s.F5_5 s.F5_6 s.F5_7 s.F5_8) s.n6_1) (Nd.mk (e36r_0_25 p s) (e36r_0_26 p s) (e36r_0_27 p s) (e36r_0_28 p s) (e36r_0_29 p s) (e36r_0_30 p s) (e36r_0_31 p s) (e36r_0_32 p s) (0 : Int))) j).r
noncomputable def e36r_0_20 (p : P36r_0) (s : S36r_0) : Nat → (Int) := fun (j : Nat) => (gN (rtL p.xh3_0 (nds (ndf s.F5_0 s.F5_1 s.F5_2 s.F5_3 s.F5_4 s.F5_5 s.F5_6 s.F5_7 s.F5_8) s.n6_1) (Nd.mk (e36r_0_25 p s) (e36r_0_26 p s) (e36r_0_27 p s) (e36r_0_28 p s) (e36r_0_29 p s) (e36r_0_30 p s) (e36r_0_31 p s) (e36r_0_32 p s) (0 : Int))) j).g
noncomputable def e36r_0_21 (p : P36r_0) (s : S36r_0) : Nat → (Int) := fun (j : Nat) => (gN (rtL p.xh3_0 (nds (ndf s.F5_0 s.F5_1 s.F5_2 s.F5_3 s.F5_4 s.F5_5 s.F5_6 s.F5_7 s.F5_8) s.n6_1) (Nd.mk (e36r_0_25 p s) (e36r_0_26 p s) (e36r_0_27 p s) (e36r_0_28 p s) (e36r_0_29 p s) (e36r_0_30 p s) (e36r_0_31 p s) (e36r_0_32 p s) (0 : Int))) j).s
noncomputable def e36r_0_22 (p : P36r_0) (s : S36r_0) : Nat → (Int) := fun (j : Nat) => (gN (rtL p.xh3_0 (nds (ndf s.F5_0 s.F5_1 s.F5_2 s.F5_3 s.F5_4 s.F5_5 s.F5_6 s.F5_7 s.F5_8) s.n6_1) (Nd.mk (e36r_0_25 p s) (e36r_0_26 p s) (e36r_0_27 p s) (e36r_0_28 p s) (e36r_0_29 p s) (e36r_0_30 p s) (e36r_0_31 p s) (e36r_0_32 p s) (0 : Int))) j).m
noncomputable def e36r_0_23 (p : P36r_0) (s : S36r_0) : Nat → (Int) := fun (j : Nat) => (gN (rtL p.xh3_0 (nds (ndf s.F5_0 s.F5_1 s.F5_2 s.F5_3 s.F5_4 s.F5_5 s.F5_6 s.F5_7 s.F5_8) s.n6_1) (Nd.mk (e36r_0_25 p s) (e36r_0_26 p s) (e36r_0_27 p s) (e36r_0_28 p s) (e36r_0_29 p s) (e36r_0_30 p s) (e36r_0_31 p s) (e36r_0_32 p s) (0 : Int))) j).d
theorem n_e36r_0_1 (p : P36r_0) (s : S36r_0) : e36r_0_1 p s := by
  unfold e36r_0_1
  first
    | (intros; rfl)
    | (intro i; rfl)
    | (intro i _; rfl)
    | (intro _ i; rfl)
    | (intro _ i _; rfl)
    | (refine ⟨?_, ?_⟩ <;> intro i <;> rfl)
    | (refine ⟨?_, ?_, ?_⟩ <;> intro i <;> rfl)
    | (refine ⟨?_, ?_⟩ <;> intro i _ <;> rfl)
    | (repeat' apply And.intro) <;> first | (intro i; rfl) | (intro i _; rfl) | (intro i h; exact absurd h (Nat.not_lt_zero i)) | (intro i; exact scpL_rowSet (by rfl) (by rfl)) | (intro i; exact scpL_rowEl (by kernel_rfl) _)
    | (intros; (repeat' apply And.intro) <;> intros <;> first | rfl | (exact absurd (by assumption) (Nat.not_lt_zero _)))
    | omega
    | decide
theorem n_e36r_0_5 (p : P36r_0) (s : S36r_0) : e36r_0_5 p s := by
  unfold e36r_0_5
  first
    | (intros; rfl)
    | (intro i; rfl)
    | (intro i _; rfl)
    | (intro _ i; rfl)
    | (intro _ i _; rfl)
    | (refine ⟨?_, ?_⟩ <;> intro i <;> rfl)
    | (refine ⟨?_, ?_, ?_⟩ <;> intro i <;> rfl)
    | (refine ⟨?_, ?_⟩ <;> intro i _ <;> rfl)
    | (repeat' apply And.intro) <;> first | (intro i; rfl) | (intro i _; rfl) | (intro i h; exact absurd h (Nat.not_lt_zero i)) | (intro i; exact scpL_rowSet (by rfl) (by rfl)) | (intro i; exact scpL_rowEl (by kernel_rfl) _)
    | (intros; (repeat' apply And.intro) <;> intros <;> first | rfl | (exact absurd (by assumption) (Nat.not_lt_zero _)))
    | omega
    | decide
theorem n_e36r_0_6 (p : P36r_0) (s : S36r_0) : e36r_0_6 p s := by
  unfold e36r_0_6
  first
    | (intros; rfl)
    | (intro i; rfl)
    | (intro i _; rfl)
    | (intro _ i; rfl)
    | (intro _ i _; rfl)
    | (refine ⟨?_, ?_⟩ <;> intro i <;> rfl)
    | (refine ⟨?_, ?_, ?_⟩ <;> intro i <;> rfl)
    | (refine ⟨?_, ?_⟩ <;> intro i _ <;> rfl)
    | (repeat' apply And.intro) <;> first | (intro i; rfl) | (intro i _; rfl) | (intro i h; exact absurd h (Nat.not_lt_zero i)) | (intro i; exact scpL_rowSet (by rfl) (by rfl)) | (intro i; exact scpL_rowEl (by kernel_rfl) _)
    | (intros; (repeat' apply And.intro) <;> intros <;> first | rfl | (exact absurd (by assumption) (Nat.not_lt_zero _)))
    | omega
    | decide
theorem n_e36r_0_8 (p : P36r_0) (s : S36r_0) : e36r_0_8 p s := by
  unfold e36r_0_8
  first
    | (intros; rfl)
    | (intro i; rfl)
    | (intro i _; rfl)
    | (intro _ i; rfl)
    | (intro _ i _; rfl)
    | (refine ⟨?_, ?_⟩ <;> intro i <;> rfl)
    | (refine ⟨?_, ?_, ?_⟩ <;> intro i <;> rfl)
    | (refine ⟨?_, ?_⟩ <;> intro i _ <;> rfl)
    | (repeat' apply And.intro) <;> first | (intro i; rfl) | (intro i _; rfl) | (intro i h; exact absurd h (Nat.not_lt_zero i)) | (intro i; exact scpL_rowSet (by rfl) (by rfl)) | (intro i; exact scpL_rowEl (by kernel_rfl) _)
    | (intros; (repeat' apply And.intro) <;> intros <;> first | rfl | (exact absurd (by assumption) (Nat.not_lt_zero _)))
    | omega
    | decide
theorem n_e36r_0_9 (p : P36r_0) (s : S36r_0) : e36r_0_9 p s := by
  unfold e36r_0_9
  first
    | (intros; rfl)
    | (intro i; rfl)
    | (intro i _; rfl)
    | (intro _ i; rfl)
    | (intro _ i _; rfl)
    | (refine ⟨?_, ?_⟩ <;> intro i <;> rfl)
    | (refine ⟨?_, ?_, ?_⟩ <;> intro i <;> rfl)
    | (refine ⟨?_, ?_⟩ <;> intro i _ <;> rfl)
    | (repeat' apply And.intro) <;> first | (intro i; rfl) | (intro i _; rfl) | (intro i h; exact absurd h (Nat.not_lt_zero i)) | (intro i; exact scpL_rowSet (by rfl) (by rfl)) | (intro i; exact scpL_rowEl (by kernel_rfl) _)
    | (intros; (repeat' apply And.intro) <;> intros <;> first | rfl | (exact absurd (by assumption) (Nat.not_lt_zero _)))
    | omega
    | decide
noncomputable def rf36r_0 (p : P36r_0) (s : S36r_0) : Tr (Rs th.R S36r_0) := (Tr.ite (e36r_0_0 p s) (Tr.need (e36r_0_1 p s) (Tr.leaf (Rs.out (Ex.exit (0:Nat)) [none, none, none, (some (SV.ptr (1 : Nat) (0:Nat))), none, none, (some (SV.ptr (3 : Nat) (0:Nat))), (some (SV.ptr (4 : Nat) (0:Nat))), none, none, none, none, none, none, none, none, none, none, none, none, none, none, none, none, none, none, none, none, none, none, none, none, none, none, none, none, none, none, none, none, none, none, none, none, none, none, none, none] [(HO.row (117 : Nat) (8 : Nat) (p.N0) (fun j => [SV.int .u64 (p.F0_0 j), SV.int .i64 (p.F0_1 j), SV.int .u64 (p.F0_2 j), SV.int .i64 (p.F0_3 j), SV.int .i64 (p.F0_4 j), SV.int .i64 (p.F0_5 j), SV.int .i64 (p.F0_6 j), SV.int .u64 (p.F0_7 j)])), (HO.cells (55 : Nat) [SV.int .u64 (p.xh1_0), SV.nils]), HO.res (s.R2), (HO.cells (55 : Nat) [SV.int .u64 (p.xh3_0), (SV.slc (5) (9 : Nat) (0:Nat) (s.n6_1))]), (HO.cells (175 : Nat) [(SV.ptr (2 : Nat) (0:Nat)), SV.int .u64 (s.xh4_1), SV.int .i64 (s.xh4_2)]), (HO.row (100 : Nat) (9 : Nat) (s.N5) (fun j => [SV.int .u64 (s.F5_0 j), SV.int .i64 (s.F5_1 j), SV.int .u64 (s.F5_2 j), SV.int .i64 (s.F5_3 j), SV.int .i64 (s.F5_4 j), SV.int .i64 (s.F5_5 j), SV.int .i64 (s.F5_6 j), SV.int .u64 (s.F5_7 j), SV.int .i64 (s.F5_8 j)]))]))) (Tr.need (e36r_0_2 p s) (Tr.need (e36r_0_3 p s) (Tr.need (e36r_0_4 p s) (Tr.need (e36r_0_5 p s) (Tr.need (e36r_0_6 p s) (Tr.need (e36r_0_7 p s) (Tr.need (e36r_0_8 p s) (Tr.need (e36r_0_9 p s) (Tr.leaf (Rs.on (S36r_0.mk ((e36r_0_10 p s)) ((e36r_0_11 p s)) ((e36r_0_12 p s)) ((e36r_0_13 p s)) ((e36r_0_14 p s)) ((e36r_0_12 p s)) ((fun j => (e36r_0_15 p s j))) ((fun j => (e36r_0_16 p s j))) ((fun j => (e36r_0_17 p s j))) ((fun j => (e36r_0_18 p s j))) ((fun j => (e36r_0_19 p s j))) ((fun j => (e36r_0_20 p s j))) ((fun j => (e36r_0_21 p s j))) ((fun j => (e36r_0_22 p s j))) ((fun j => (e36r_0_23 p s j)))))))))))))))
noncomputable def r36r_0 (p : P36r_0) (s : S36r_0) : Tr (Rs th.R S36r_0) := (Tr.ite (e36r_0_0 p s) (Tr.leaf (Rs.out (Ex.exit (0:Nat)) [none, none, none, (some (SV.ptr (1 : Nat) (0:Nat))), none, none, (some (SV.ptr (3 : Nat) (0:Nat))), (some (SV.ptr (4 : Nat) (0:Nat))), none, none, none, none, none, none, none, none, none, none, none, none, none, none, none, none, none, none, none, none, none, none, none, none, none, none, none, none, none, none, none, none, none, none, none, none, none, none, none, none] [(HO.row (117 : Nat) (8 : Nat) (p.N0) (fun j => [SV.int .u64 (p.F0_0 j), SV.int .i64 (p.F0_1 j), SV.int .u64 (p.F0_2 j), SV.int .i64 (p.F0_3 j), SV.int .i64 (p.F0_4 j), SV.int .i64 (p.F0_5 j), SV.int .i64 (p.F0_6 j), SV.int .u64 (p.F0_7 j)])), (HO.cells (55 : Nat) [SV.int .u64 (p.xh1_0), SV.nils]), HO.res (s.R2), (HO.cells (55 : Nat) [SV.int .u64 (p.xh3_0), (SV.slc (5) (9 : Nat) (0:Nat) (s.n6_1))]), (HO.cells (175 : Nat) [(SV.ptr (2 : Nat) (0:Nat)), SV.int .u64 (s.xh4_1), SV.int .i64 (s.xh4_2)]), (HO.row (100 : Nat) (9 : Nat) (s.N5) (fun j => [SV.int .u64 (s.F5_0 j), SV.int .i64 (s.F5_1 j), SV.int .u64 (s.F5_2 j), SV.int .i64 (s.F5_3 j), SV.int .i64 (s.F5_4 j), SV.int .i64 (s.F5_5 j), SV.int .i64 (s.F5_6 j), SV.int .u64 (s.F5_7 j), SV.int .i64 (s.F5_8 j)]))])) (Tr.need (e36r_0_2 p s) (Tr.need (e36r_0_3 p s) (Tr.need (e36r_0_4 p s) (Tr.need (e36r_0_7 p s) (Tr.leaf (Rs.on (S36r_0.mk ((e36r_0_10 p s)) ((e36r_0_11 p s)) ((e36r_0_12 p s)) ((e36r_0_13 p s)) ((e36r_0_14 p s)) ((e36r_0_12 p s)) ((fun j => (e36r_0_15 p s j))) ((fun j => (e36r_0_16 p s j))) ((fun j => (e36r_0_17 p s j))) ((fun j => (e36r_0_18 p s j))) ((fun j => (e36r_0_19 p s j))) ((fun j => (e36r_0_20 p s j))) ((fun j => (e36r_0_21 p s j))) ((fun j => (e36r_0_22 p s j))) ((fun j => (e36r_0_23 p s j)))))))))))
noncomputable def E36r_0 : St th.R → Out th := evCode th Try.prog (auto th Try.prog nice42n [] 20) (autoH [] [] [] [] : Hints th) (lpAt Try.prog 36 0)
theorem B36r_0 : CodeSound th Try.prog (lpAt Try.prog 36 0) E36r_0 := evCode_sound (T := th) (P := Try.prog) (tbl := (auto th Try.prog nice42n [] 20)) (auto_sound (nice := nice42n) (us := []) nok42n 20) (autoH [] [] [] [] : Hints th) _ (LoopsOk_mem (fun _ => rfl) _ fun b hb L hL => by cases hL)
noncomputable def L36r_0 : St th.R → Out th := loopL d36r_0 ofV36r_0 r36r_0
theorem h1_36r_0 (p : P36r_0) (s : S36r_0) : bld d36r_0.tm (toV36r_0 p s) = some (I36r_0 p s) := by kernel_rfl
theorem h2_36r_0 (l : List (Vl th.R)) (p : P36r_0) (s : S36r_0) (h : ofV36r_0 l = some (p, s)) : l = toV36r_0 p s := by
  unfold ofV36r_0 at h
  split at h
  · cases h; rfl
  · cases h
theorem h3_36r_0 (p : P36r_0) (s : S36r_0) : cvE d36r_0 (E36r_0 (I36r_0 p s)) = some ((rf36r_0 p s).map (Rs.map (toV36r_0 p))) := by kernel_rfl
theorem h3g_36r_0 (p : P36r_0) (s : S36r_0) : (rf36r_0 p s).get = (r36r_0 p s).get := by kernel_rfl
theorem h4_36r_0 (p : P36r_0) (s s1 : S36r_0) : outH d36r_0.dirt d36r_0.n0 (r36r_0 p s) = repH (maskH d36r_0.dirt 0 d36r_0.n0 (I36r_0 p s1).heap) (r36r_0 p s) := by kernel_rfl
theorem ls36r_0 : CodeSound th Try.prog (.loop (lpAt Try.prog 36 0)) L36r_0 := loopL_sound B36r_0 d36r_0 I36r_0 toV36r_0 (by kernel_rfl) h1_36r_0 h2_36r_0
  (fun p s => ⟨(rf36r_0 p s).map (Rs.map (toV36r_0 p)), h3_36r_0 p s, fun h => by
    rw [Tr.map_ok]
    unfold r36r_0 at h; unfold rf36r_0
    simp only [Tr.ok, n_e36r_0_1, n_e36r_0_5, n_e36r_0_6, n_e36r_0_8, n_e36r_0_9, true_and, and_true, forall_const, implies_true] at h ⊢
    try exact h, by rw [Tr.map_get, h3g_36r_0 p s]⟩) h4_36r_0
theorem ok36r : LoopsOk th Try.prog (autoH [(7, L36r_0)] [] [] [] : Hints th) (bodyOf Try.prog 36) := autoH_ok (bs := [lpAt Try.prog 36 0]) (by kernel_rfl) fun b hb L hL => by
  simp only [List.mem_cons, List.not_mem_nil, or_false] at hb
  rcases hb with rfl
  · have e : lookL [(7, L36r_0)] (firstReg (lpAt Try.prog 36 0)) = some L36r_0 := by kernel_rfl
    rw [e] at hL; cases hL
    exact ls36r_0
noncomputable def f36r_16 (v : V36r) : (S36r_0) := lastS (r36r_0 (P36r_0.mk v.L (↑v.L : Int) v.Q v.pt v.pk v.pa v.pb v.pr v.pg v.ps v.pm (0 : Int) (65536 : Int))) (S36r_0.mk (0 : Int) (newM (65536 : Int)) (0:Nat) (0 : Int) (0 : Int) (0:Nat) (colI (fun (j : Nat) => []) (0:Nat)) (colI (fun (j : Nat) => []) (1 : Nat)) (colI (fun (j : Nat) => []) (2 : Nat)) (colI (fun (j : Nat) => []) (3 : Nat)) (colI (fun (j : Nat) => []) (4 : Nat)) (colI (fun (j : Nat) => []) (5 : Nat)) (colI (fun (j : Nat) => []) (6 : Nat)) (colI (fun (j : Nat) => []) (7 : Nat)) (colI (fun (j : Nat) => []) (8 : Nat)))
noncomputable def f36r_0 (v : V36r) : (Prop) := false = false → (∀ (i : Nat), i < v.Q → (fun (j : Nat) => [SV.int IntKind.u64 (v.pt j), SV.int IntKind.i64 (v.pk j), SV.int IntKind.u64 (v.pa j), SV.int IntKind.i64 (v.pb j), SV.int IntKind.i64 (v.pr j), SV.int IntKind.i64 (v.pg j), SV.int IntKind.i64 (v.ps j), SV.int IntKind.u64 (v.pm j)]) i = elC (fun (j : Nat) => [SV.int IntKind.u64 (v.pt j), SV.int IntKind.i64 (v.pk j), SV.int IntKind.u64 (v.pa j), SV.int IntKind.i64 (v.pb j), SV.int IntKind.i64 (v.pr j), SV.int IntKind.i64 (v.pg j), SV.int IntKind.i64 (v.ps j), SV.int IntKind.u64 (v.pm j)]) (0:Nat) [Ck.int IntKind.u64, Ck.int IntKind.i64, Ck.int IntKind.u64, Ck.int IntKind.i64, Ck.int IntKind.i64, Ck.int IntKind.i64, Ck.int IntKind.i64, Ck.int IntKind.u64] i) ∧ ∀ (i : Nat), i < (0:Nat) → (fun (j : Nat) => []) i = elC (fun (j : Nat) => []) (0:Nat) [Ck.int IntKind.u64, Ck.int IntKind.i64, Ck.int IntKind.u64, Ck.int IntKind.i64, Ck.int IntKind.i64, Ck.int IntKind.i64, Ck.int IntKind.i64, Ck.int IntKind.u64, Ck.int IntKind.i64] i
noncomputable def f36r_1 (v : V36r) : (Prop) := false = false → LT (r36r_0 (P36r_0.mk v.L (↑v.L : Int) v.Q v.pt v.pk v.pa v.pb v.pr v.pg v.ps v.pm (0 : Int) (65536 : Int))) (S36r_0.mk (0 : Int) (newM (65536 : Int)) (0:Nat) (0 : Int) (0 : Int) (0:Nat) (colI (fun (j : Nat) => []) (0:Nat)) (colI (fun (j : Nat) => []) (1 : Nat)) (colI (fun (j : Nat) => []) (2 : Nat)) (colI (fun (j : Nat) => []) (3 : Nat)) (colI (fun (j : Nat) => []) (4 : Nat)) (colI (fun (j : Nat) => []) (5 : Nat)) (colI (fun (j : Nat) => []) (6 : Nat)) (colI (fun (j : Nat) => []) (7 : Nat)) (colI (fun (j : Nat) => []) (8 : Nat)))
noncomputable def f36r_2 (v : V36r) : (Nat) := (f36r_16 v).n6_1
noncomputable def f36r_3 (v : V36r) : (th.R) := (f36r_16 v).R2
noncomputable def f36r_4 (v : V36r) : (Int) := (f36r_16 v).xh4_1
noncomputable def f36r_5 (v : V36r) : (Int) := (f36r_16 v).xh4_2
noncomputable def f36r_6 (v : V36r) : (Nat) := (f36r_16 v).N5
noncomputable def f36r_7 (v : V36r) : Nat → (Int) := fun (j : Nat) => (f36r_16 v).F5_0 j
noncomputable def f36r_8 (v : V36r) : Nat → (Int) := fun (j : Nat) => (f36r_16 v).F5_1 j
noncomputable def f36r_9 (v : V36r) : Nat → (Int) := fun (j : Nat) => (f36r_16 v).F5_2 j
noncomputable def f36r_10 (v : V36r) : Nat → (Int) := fun (j : Nat) => (f36r_16 v).F5_3 j
noncomputable def f36r_11 (v : V36r) : Nat → (Int) := fun (j : Nat) => (f36r_16 v).F5_4 j
noncomputable def f36r_12 (v : V36r) : Nat → (Int) := fun (j : Nat) => (f36r_16 v).F5_5 j
noncomputable def f36r_13 (v : V36r) : Nat → (Int) := fun (j : Nat) => (f36r_16 v).F5_6 j
noncomputable def f36r_14 (v : V36r) : Nat → (Int) := fun (j : Nat) => (f36r_16 v).F5_7 j
noncomputable def f36r_15 (v : V36r) : Nat → (Int) := fun (j : Nat) => (f36r_16 v).F5_8 j
theorem n_f36r_0 (v : V36r) : f36r_0 v := by
  unfold f36r_0
  first
    | (intros; rfl)
    | (intro i; rfl)
    | (intro i _; rfl)
    | (intro _ i; rfl)
    | (intro _ i _; rfl)
    | (refine ⟨?_, ?_⟩ <;> intro i <;> rfl)
    | (refine ⟨?_, ?_, ?_⟩ <;> intro i <;> rfl)
    | (refine ⟨?_, ?_⟩ <;> intro i _ <;> rfl)
    | (repeat' apply And.intro) <;> first | (intro i; rfl) | (intro i _; rfl) | (intro i h; exact absurd h (Nat.not_lt_zero i)) | (intro i; exact scpL_rowSet (by rfl) (by rfl)) | (intro i; exact scpL_rowEl (by kernel_rfl) _)
    | (intros; (repeat' apply And.intro) <;> intros <;> first | rfl | (exact absurd (by assumption) (Nat.not_lt_zero _)))
    | omega
    | decide
noncomputable def ff36r (v : V36r) : Tr (Fin th.R) := (Tr.need (f36r_0 v) (Tr.need (f36r_1 v) (Tr.ite (false) (Tr.leaf ((SV.tup [SV.nilp, (SV.agg [(SV.int .u64 (65536 : Int)), SV.nils])]), [(HO.row (117 : Nat) (8 : Nat) (v.Q) (fun j => [SV.int .u64 (v.pt j), SV.int .i64 (v.pk j), SV.int .u64 (v.pa j), SV.int .i64 (v.pb j), SV.int .i64 (v.pr j), SV.int .i64 (v.pg j), SV.int .i64 (v.ps j), SV.int .u64 (v.pm j)]))], List.nil)) (Tr.leaf ((SV.tup [(SV.ptr (4 : Nat) (0:Nat)), (SV.agg [(SV.int .u64 (65536 : Int)), (SV.slc (5 : Nat) (9 : Nat) (0:Nat) (f36r_2 v))])]), [(HO.row (117 : Nat) (8 : Nat) (v.Q) (fun j => [SV.int .u64 (v.pt j), SV.int .i64 (v.pk j), SV.int .u64 (v.pa j), SV.int .i64 (v.pb j), SV.int .i64 (v.pr j), SV.int .i64 (v.pg j), SV.int .i64 (v.ps j), SV.int .u64 (v.pm j)])), (HO.cells (55 : Nat) [(SV.int .u64 (65536 : Int)), (SV.slc (5 : Nat) (9 : Nat) (0:Nat) (f36r_2 v))]), HO.res (f36r_3 v), (HO.cells (55 : Nat) [(SV.int .u64 (65536 : Int)), (SV.slc (5 : Nat) (9 : Nat) (0:Nat) (f36r_2 v))]), (HO.cells (175 : Nat) [(SV.ptr (2 : Nat) (0:Nat)), SV.int .u64 (f36r_4 v), SV.int .i64 (f36r_5 v)]), (HO.row (100 : Nat) (9 : Nat) (f36r_6 v) (fun j => [SV.int .u64 (f36r_7 v j), SV.int .i64 (f36r_8 v j), SV.int .u64 (f36r_9 v j), SV.int .i64 (f36r_10 v j), SV.int .i64 (f36r_11 v j), SV.int .i64 (f36r_12 v j), SV.int .i64 (f36r_13 v j), SV.int .u64 (f36r_14 v j), SV.int .i64 (f36r_15 v j)]))], [(1 : Nat), (2 : Nat), (3 : Nat), (4 : Nat), 3])))))
noncomputable def f36r (v : V36r) : Tr (Fin th.R) := (Tr.need (f36r_1 v) (Tr.ite (false) (Tr.leaf ((SV.tup [SV.nilp, (SV.agg [(SV.int .u64 (65536 : Int)), SV.nils])]), [(HO.row (117 : Nat) (8 : Nat) (v.Q) (fun j => [SV.int .u64 (v.pt j), SV.int .i64 (v.pk j), SV.int .u64 (v.pa j), SV.int .i64 (v.pb j), SV.int .i64 (v.pr j), SV.int .i64 (v.pg j), SV.int .i64 (v.ps j), SV.int .u64 (v.pm j)]))], [])) (Tr.leaf ((SV.tup [(SV.ptr (4 : Nat) (0:Nat)), (SV.agg [(SV.int .u64 (65536 : Int)), (SV.slc (5 : Nat) (9 : Nat) (0:Nat) (f36r_2 v))])]), [(HO.row (117 : Nat) (8 : Nat) (v.Q) (fun j => [SV.int .u64 (v.pt j), SV.int .i64 (v.pk j), SV.int .u64 (v.pa j), SV.int .i64 (v.pb j), SV.int .i64 (v.pr j), SV.int .i64 (v.pg j), SV.int .i64 (v.ps j), SV.int .u64 (v.pm j)])), (HO.cells (55 : Nat) [(SV.int .u64 (65536 : Int)), (SV.slc (5 : Nat) (9 : Nat) (0:Nat) (f36r_2 v))]), HO.res (f36r_3 v), (HO.cells (55 : Nat) [(SV.int .u64 (65536 : Int)), (SV.slc (5 : Nat) (9 : Nat) (0:Nat) (f36r_2 v))]), (HO.cells (175 : Nat) [(SV.ptr (2 : Nat) (0:Nat)), SV.int .u64 (f36r_4 v), SV.int .i64 (f36r_5 v)]), (HO.row (100 : Nat) (9 : Nat) (f36r_6 v) (fun j => [SV.int .u64 (f36r_7 v j), SV.int .i64 (f36r_8 v j), SV.int .u64 (f36r_9 v j), SV.int .i64 (f36r_10 v j), SV.int .i64 (f36r_11 v j), SV.int .i64 (f36r_12 v j), SV.int .i64 (f36r_13 v j), SV.int .u64 (f36r_14 v j), SV.int .i64 (f36r_15 v j)]))], []))))
noncomputable def C36r : CF th.R := fnC d36r ofV36r (f36r )
theorem q36r (v : V36r) : (evFn th Try.prog (auto th Try.prog nice42n [] 20) (autoH [(7, L36r_0)] [] [] [] : Hints th) 36) (A36r v) (H36r v) = some (ff36r v) := by kernel_rfl
theorem qg36r (v : V36r) : ((ff36r v).map (setD [])).get = (f36r v).get := by kernel_rfl
theorem qd36r (v : V36r) : allD 1 [] (ff36r v) = true := by kernel_rfl
theorem s36r : Sound Try.prog th 36 (C36r ) := fnC_sound (evFn_sound' (T := th) (P := Try.prog) (tbl := (auto th Try.prog nice42n [] 20)) (auto_sound (nice := nice42n) (us := []) nok42n 20) (H := (autoH [(7, L36r_0)] [] [] [] : Hints th)) (k := 36) (fnLoops ok36r)) d36r A36r H36r toV36r (by kernel_rfl) (fun v => by kernel_rfl)
  (fun l v h => by
    unfold ofV36r at h
    split at h
    · cases h; rfl
    · cases h)
  [] (fun v => ⟨ff36r v, q36r v, fun h => by
    unfold f36r at h; unfold ff36r
    simp only [Tr.ok, n_f36r_0, true_and, and_true, forall_const, implies_true] at h ⊢
    try exact h, qg36r v, qd36r v⟩)
theorem qdd36r (v : V36r) : (f36r v).get.2.2 = [] := by
  rw [← qg36r, Tr.map_get]; rfl
end Go.Sx.M

namespace Go.Sx.M
open Go Go.Sx Go.Proofs Go.RowKit
set_option maxRecDepth 100000
structure V36 where
  L : Nat
  Q : Nat
  ob : Obj
  pt : Nat → Int
  pk : Nat → Int
  pa : Nat → Int
  pb : Nat → Int
  pr : Nat → Int
  pg : Nat → Int
  ps : Nat → Int
  pm : Nat → Int
def A36 (v : V36) : List SV := [.slc 0 8 0 v.L]
def H36 (v : V36) : List (HO th.R) := [.ro 117 8 v.Q (fun j => [.int .u64 (v.pt j), .int .i64 (v.pk j), .int .u64 (v.pa j), .int .i64 (v.pb j), .int .i64 (v.pr j), .int .i64 (v.pg j), .int .i64 (v.ps j), .int .u64 (v.pm j)]) v.ob]
def toV36 (v : V36) : List (Vl th.R) := [.n v.L, .n v.Q, .o v.ob, .c v.pt, .c v.pk, .c v.pa, .c v.pb, .c v.pr, .c v.pg, .c v.ps, .c v.pm]
def ofV36 : List (Vl th.R) → Option V36
  | [.n L, .n Q, .o ob, .c pt, .c pk, .c pa, .c pb, .c pr, .c pg, .c ps, .c pm] => some ⟨L, Q, ob, pt, pk, pa, pb, pr, pg, ps, pm⟩
  | _ => none
def d36 : Ft := ⟨[.slc0 0 8], [.roc 117 [.int .u64, .int .i64, .int .u64, .int .i64, .int .i64, .int .i64, .int .i64, .int .u64]]⟩
structure P36_0 where
  n24 : Nat
  x25 : Int
  N0 : Nat
  O0 : Obj
  F0_0 : Nat → Int
  F0_1 : Nat → Int
  F0_2 : Nat → Int
  F0_3 : Nat → Int
  F0_4 : Nat → Int
  F0_5 : Nat → Int
  F0_6 : Nat → Int
  F0_7 : Nat → Int
  xh1_0 : Int
  xh3_0 : Int
structure S36_0 where
  x26 : Int
  R2 : th.R
  n6_1 : Nat
  xh4_1 : Int
  xh4_2 : Int
  N5 : Nat
  F5_0 : Nat → Int
  F5_1 : Nat → Int
  F5_2 : Nat → Int
  F5_3 : Nat → Int
  F5_4 : Nat → Int
  F5_5 : Nat → Int
  F5_6 : Nat → Int
  F5_7 : Nat → Int
  F5_8 : Nat → Int
noncomputable instance : Inhabited S36_0 := ⟨⟨0, dR, 0, 0, 0, 0, fun _ => 0, fun _ => 0, fun _ => 0, fun _ => 0, fun _ => 0, fun _ => 0, fun _ => 0, fun _ => 0, fun _ => 0⟩⟩
def I36_0 (p : P36_0) (s : S36_0) : St th.R := ⟨[none, none, none, some (.ptr 1 0), none, none, some (.ptr 3 0), some (.ptr 4 0), none, none, none, none, none, none, none, none, none, none, none, none, none, none, none, none, some (.slc 0 8 0 p.n24), some (.int .i64 p.x25), some (.int .i64 s.x26), none, none, none, none, none, none, none, none, none, none, none, none, none, none, none, none, none, none, none, none, none], [.ro 117 8 p.N0 (fun j => [.int .u64 (p.F0_0 j), .int .i64 (p.F0_1 j), .int .u64 (p.F0_2 j), .int .i64 (p.F0_3 j), .int .i64 (p.F0_4 j), .int .i64 (p.F0_5 j), .int .i64 (p.F0_6 j), .int .u64 (p.F0_7 j)]) p.O0, .cells 55 [.int .u64 p.xh1_0, .nils], .res s.R2, .cells 55 [.int .u64 p.xh3_0, .slc 5 9 0 s.n6_1], .cells 175 [.ptr 2 0, .int .u64 s.xh4_1, .int .i64 s.xh4_2], .row 100 9 s.N5 (fun j => [.int .u64 (s.F5_0 j), .int .i64 (s.F5_1 j), .int .u64 (s.F5_2 j), .int .i64 (s.F5_3 j), .int .i64 (s.F5_4 j), .int .i64 (s.F5_5 j), .int .i64 (s.F5_6 j), .int .u64 (s.F5_7 j), .int .i64 (s.F5_8 j)])], [], []⟩
def d36_0 : Lp := ⟨⟨48, [(3, .ptr 1 0), (6, .ptr 3 0), (7, .ptr 4 0), (24, .slc0 0 8), (25, .int .i64), (26, .int .i64)], [.roc 117 [.int .u64, .int .i64, .int .u64, .int .i64, .int .i64, .int .i64, .int .i64, .int .u64], .cells 55 [.int .u64, .nils], .res, .cells 55 [.int .u64, .slc0 5 9], .cells 175 [.ptr 2 0, .int .u64, .int .i64], .rowc 100 [.int .u64, .int .i64, .int .u64, .int .i64, .int .i64, .int .i64, .int .i64, .int .u64, .int .i64]]⟩, [⟨2006, 100, 9⟩], 5, [2, 3, 4], [3, 6, 7], []⟩
def toV36_0 (p : P36_0) (s : S36_0) : List (Vl th.R) := [.n p.n24, .i p.x25, .i s.x26, .n p.N0, .o p.O0, .c p.F0_0, .c p.F0_1, .c p.F0_2, .c p.F0_3, .c p.F0_4, .c p.F0_5, .c p.F0_6, .c p.F0_7, .i p.xh1_0, .r s.R2, .i p.xh3_0, .n s.n6_1, .i s.xh4_1, .i s.xh4_2, .n s.N5, .c s.F5_0, .c s.F5_1, .c s.F5_2, .c s.F5_3, .c s.F5_4, .c s.F5_5, .c s.F5_6, .c s.F5_7, .c s.F5_8]
def ofV36_0 : List (Vl th.R) → Option (P36_0 × S36_0)
  | [.n n24, .i x25, .i x26, .n N0, .o O0, .c F0_0, .c F0_1, .c F0_2, .c F0_3, .c F0_4, .c F0_5, .c F0_6, .c F0_7, .i xh1_0, .r R2, .i xh3_0, .n n6_1, .i xh4_1, .i xh4_2, .n N5, .c F5_0, .c F5_1, .c F5_2, .c F5_3, .c F5_4, .c F5_5, .c F5_6, .c F5_7, .c F5_8] => some (⟨n24, x25, N0, O0, F0_0, F0_1, F0_2, F0_3, F0_4, F0_5, F0_6, F0_7, xh1_0, xh3_0⟩, ⟨x26, R2, n6_1, xh4_1, xh4_2, N5, F5_0, F5_1, F5_2, F5_3, F5_4, F5_5, F5_6, F5_7, F5_8⟩)
  | _ => none
noncomputable def e36_0_24 (p : P36_0) (s : S36_0) : (Nat) := (0:Nat) + s.x26.toNat
noncomputable def e36_0_25 (p : P36_0) (s : S36_0) : (Int) := p.F0_0 (e36_0_24 p s)
noncomputable def e36_0_26 (p : P36_0) (s : S36_0) : (Int) := p.F0_1 (e36_0_24 p s)
noncomputable def e36_0_27 (p : P36_0) (s : S36_0) : (Int) := p.F0_2 (e36_0_24 p s)
noncomputable def e36_0_28 (p : P36_0) (s : S36_0) : (Int) := p.F0_3 (e36_0_24 p s)
noncomputable def e36_0_29 (p : P36_0) (s : S36_0) : (Int) := p.F0_4 (e36_0_24 p s)
noncomputable def e36_0_30 (p : P36_0) (s : S36_0) : (Int) := p.F0_5 (e36_0_24 p s)
noncomputable def e36_0_31 (p : P36_0) (s : S36_0) : (Int) := p.F0_6 (e36_0_24 p s)
noncomputable def e36_0_32 (p : P36_0) (s : S36_0) : (Int) := p.F0_7 (e36_0_24 p s)
noncomputable def e36_0_33 (p : P36_0) (s : S36_0) : (Nat) := (rtL p.xh3_0 (nds (ndf s.F5_0 s.F5_1 s.F5_2 s.F5_3 s.F5_4 s.F5_5 s.F5_6 s.F5_7 s.F5_8) s.n6_1) (Nd.mk (e36_0_25 p s) (e36_0_26 p s) (e36_0_27 p s) (e36_0_28 p s) (e36_0_29 p s) (e36_0_30 p s) (e36_0_31 p s) (e36_0_32 p s) (0 : Int))).length
noncomputable def e36_0_34 (p : P36_0) (s : S36_0) : (TS) := rtT (TS.mk s.R2 s.xh4_1 s.xh4_2) (e36_0_25 p s) (Sl.mk (e36_0_26 p s) (e36_0_27 p s) (e36_0_28 p s) (e36_0_29 p s) (e36_0_30 p s) (e36_0_31 p s) (e36_0_32 p s) (0 : Int) (0 : Int) (0 : Int))
noncomputable def e36_0_0 (p : P36_0) (s : S36_0) : (Bool) := cnd (decide (s.x26 < p.x25)) false true
noncomputable def e36_0_1 (p : P36_0) (s : S36_0) : (Prop) := (∀ (i : Nat), scpL (0:Nat) ((fun (j : Nat) => [SV.int IntKind.u64 (p.F0_0 j), SV.int IntKind.i64 (p.F0_1 j), SV.int IntKind.u64 (p.F0_2 j), SV.int IntKind.i64 (p.F0_3 j), SV.int IntKind.i64 (p.F0_4 j), SV.int IntKind.i64 (p.F0_5 j), SV.int IntKind.i64 (p.F0_6 j), SV.int IntKind.u64 (p.F0_7 j)]) i) = true) ∧ ∀ (i : Nat), scpL (0:Nat) ((fun (j : Nat) => [SV.int IntKind.u64 (s.F5_0 j), SV.int IntKind.i64 (s.F5_1 j), SV.int IntKind.u64 (s.F5_2 j), SV.int IntKind.i64 (s.F5_3 j), SV.int IntKind.i64 (s.F5_4 j), SV.int IntKind.i64 (s.F5_5 j), SV.int IntKind.i64 (s.F5_6 j), SV.int IntKind.u64 (s.F5_7 j), SV.int IntKind.i64 (s.F5_8 j)]) i) = true
noncomputable def e36_0_2 (p : P36_0) (s : S36_0) : (Prop) := (0 : Int) ≤ s.x26 ∧ s.x26 < (↑p.n24 : Int)
noncomputable def e36_0_3 (p : P36_0) (s : S36_0) : (Prop) := e36_0_24 p s < p.N0
noncomputable def e36_0_4 (p : P36_0) (s : S36_0) : (Prop) := pre109 (V109.mk (e36_0_25 p s) (e36_0_26 p s) (e36_0_27 p s) (e36_0_28 p s) (e36_0_29 p s) (e36_0_30 p s) (e36_0_31 p s) (e36_0_32 p s) s.xh4_1 s.xh4_2 s.R2)
noncomputable def e36_0_5 (p : P36_0) (s : S36_0) : (Prop) := ∀ (i : Nat), scpL (0:Nat) ((fun (j : Nat) => [SV.int IntKind.u64 (s.F5_0 j), SV.int IntKind.i64 (s.F5_1 j), SV.int IntKind.u64 (s.F5_2 j), SV.int IntKind.i64 (s.F5_3 j), SV.int IntKind.i64 (s.F5_4 j), SV.int IntKind.i64 (s.F5_5 j), SV.int IntKind.i64 (s.F5_6 j), SV.int IntKind.u64 (s.F5_7 j), SV.int IntKind.i64 (s.F5_8 j)]) i) = true
noncomputable def e36_0_6 (p : P36_0) (s : S36_0) : (Prop) := ∀ (i : Nat), i < s.N5 → (fun (j : Nat) => [SV.int IntKind.u64 (s.F5_0 j), SV.int IntKind.i64 (s.F5_1 j), SV.int IntKind.u64 (s.F5_2 j), SV.int IntKind.i64 (s.F5_3 j), SV.int IntKind.i64 (s.F5_4 j), SV.int IntKind.i64 (s.F5_5 j), SV.int IntKind.i64 (s.F5_6 j), SV.int IntKind.u64 (s.F5_7 j), SV.int IntKind.i64 (s.F5_8 j)]) i = elC (fun (j : Nat) => [SV.int IntKind.u64 (s.F5_0 j), SV.int IntKind.i64 (s.F5_1 j), SV.int IntKind.u64 (s.F5_2 j), SV.int IntKind.i64 (s.F5_3 j), SV.int IntKind.i64 (s.F5_4 j), SV.int IntKind.i64 (s.F5_5 j), SV.int IntKind.i64 (s.F5_6 j), SV.int IntKind.u64 (s.F5_7 j), SV.int IntKind.i64 (s.F5_8 j)]) (0:Nat) [Ck.int IntKind.u64, Ck.int IntKind.i64, Ck.int IntKind.u64, Ck.int IntKind.i64, Ck.int IntKind.i64, Ck.int IntKind.i64, Ck.int IntKind.i64, Ck.int IntKind.u64, Ck.int IntKind.i64] i
noncomputable def e36_0_7 (p : P36_0) (s : S36_0) : (Prop) := pre110 (V110.mk p.xh3_0 s.n6_1 (e36_0_25 p s) (e36_0_26 p s) (e36_0_27 p s) (e36_0_28 p s) (e36_0_29 p s) (e36_0_30 p s) (e36_0_31 p s) (e36_0_32 p s) s.N5 s.F5_0 s.F5_1 s.F5_2 s.F5_3 s.F5_4 s.F5_5 s.F5_6 s.F5_7 s.F5_8)
noncomputable def e36_0_8 (p : P36_0) (s : S36_0) : (Prop) := ∀ (i : Nat), scpL (0:Nat) ((fun (j : Nat) => ndC (gN (rtL p.xh3_0 (nds (ndf s.F5_0 s.F5_1 s.F5_2 s.F5_3 s.F5_4 s.F5_5 s.F5_6 s.F5_7 s.F5_8) s.n6_1) (Nd.mk (e36_0_25 p s) (e36_0_26 p s) (e36_0_27 p s) (e36_0_28 p s) (e36_0_29 p s) (e36_0_30 p s) (e36_0_31 p s) (e36_0_32 p s) (0 : Int))) j)) i) = true
noncomputable def e36_0_9 (p : P36_0) (s : S36_0) : (Prop) := ((∀ (i : Nat), scpL (0:Nat) ((fun (j : Nat) => [SV.int IntKind.u64 (p.F0_0 j), SV.int IntKind.i64 (p.F0_1 j), SV.int IntKind.u64 (p.F0_2 j), SV.int IntKind.i64 (p.F0_3 j), SV.int IntKind.i64 (p.F0_4 j), SV.int IntKind.i64 (p.F0_5 j), SV.int IntKind.i64 (p.F0_6 j), SV.int IntKind.u64 (p.F0_7 j)]) i) = true) ∧ ∀ (i : Nat), scpL (0:Nat) ((fun (j : Nat) => ndC (gN (rtL p.xh3_0 (nds (ndf s.F5_0 s.F5_1 s.F5_2 s.F5_3 s.F5_4 s.F5_5 s.F5_6 s.F5_7 s.F5_8) s.n6_1) (Nd.mk (e36_0_25 p s) (e36_0_26 p s) (e36_0_27 p s) (e36_0_28 p s) (e36_0_29 p s) (e36_0_30 p s) (e36_0_31 p s) (e36_0_32 p s) (0 : Int))) j)) i) = true) ∧ (∀ (i : Nat), i < p.N0 → (fun (j : Nat) => [SV.int IntKind.u64 (p.F0_0 j), SV.int IntKind.i64 (p.F0_1 j), SV.int IntKind.u64 (p.F0_2 j), SV.int IntKind.i64 (p.F0_3 j), SV.int IntKind.i64 (p.F0_4 j), SV.int IntKind.i64 (p.F0_5 j), SV.int IntKind.i64 (p.F0_6 j), SV.int IntKind.u64 (p.F0_7 j)]) i = elC (fun (j : Nat) => [SV.int IntKind.u64 (p.F0_0 j), SV.int IntKind.i64 (p.F0_1 j), SV.int IntKind.u64 (p.F0_2 j), SV.int IntKind.i64 (p.F0_3 j), SV.int IntKind.i64 (p.F0_4 j), SV.int IntKind.i64 (p.F0_5 j), SV.int IntKind.i64 (p.F0_6 j), SV.int IntKind.u64 (p.F0_7 j)]) (0:Nat) [Ck.int IntKind.u64, Ck.int IntKind.i64, Ck.int IntKind.u64, Ck.int IntKind.i64, Ck.int IntKind.i64, Ck.int IntKind.i64, Ck.int IntKind.i64, Ck.int IntKind.u64] i) ∧ ∀ (i : Nat), i < e36_0_33 p s → (fun (j : Nat) => ndC (gN (rtL p.xh3_0 (nds (ndf s.F5_0 s.F5_1 s.F5_2 s.F5_3 s.F5_4 s.F5_5 s.F5_6 s.F5_7 s.F5_8) s.n6_1) (Nd.mk (e36_0_25 p s) (e36_0_26 p s) (e36_0_27 p s) (e36_0_28 p s) (e36_0_29 p s) (e36_0_30 p s) (e36_0_31 p s) (e36_0_32 p s) (0 : Int))) j)) i = elC (fun (j : Nat) => ndC (gN (rtL p.xh3_0 (nds (ndf s.F5_0 s.F5_1 s.F5_2 s.F5_3 s.F5_4 s.F5_5 s.F5_6 s.F5_7 s.F5_8) s.n6_1) (Nd.mk (e36_0_25 p s) (e36_0_26 p s) (e36_0_27 p s) (e36_0_28 p s) (e36_0_29 p s) (e36_0_30 p s) (e36_0_31 p s) (e36_0_32 p s) (0 : Int))) j)) (0:Nat) [Ck.int IntKind.u64, Ck.int IntKind.i64, Ck.int IntKind.u64, Ck.int IntKind.i64, Ck.int IntKind.i64, Ck.int IntKind.i64, Ck.int IntKind.i64, Ck.int IntKind.u64, Ck.int IntKind.i64] i
noncomputable def e36_0_10 (p : P36_0) (s : S36_0) : (Int) := IntKind.i64.wrap (s.x26 + (1 : Int))
noncomputable def e36_0_11 (p : P36_0) (s : S36_0) : (Mem) := (e36_0_34 p s).M
noncomputable def e36_0_12 (p : P36_0) (s : S36_0) : (Nat) := e36_0_33 p s
noncomputable def e36_0_13 (p : P36_0) (s : S36_0) : (Int) := (e36_0_34 p s).f
noncomputable def e36_0_14 (p : P36_0) (s : S36_0) : (Int) := (e36_0_34 p s).c
noncomputable def e36_0_15 (p : P36_0) (s : S36_0) : Nat → (Int) := fun (j : Nat) => (gN (rtL p.xh3_0 (nds (ndf s.F5_0 s.F5_1 s.F5_2 s.F5_3 s.F5_4 s.F5_5 s.F5_6 s.F5_7 s.F5_8) s.n6_1) (Nd.mk (e36_0_25 p s) (e36_0_26 p s) (e36_0_27 p s) (e36_0_28 p s) (e36_0_29 p s) (e36_0_30 p s) (e36_0_31 p s) (e36_0_32 p s) (0 : Int))) j).t
noncomputable def e36_0_16 (p : P36_0) (s : S36_0) : Nat → (Int) := fun (j : Nat) => (gN (rtL p.xh3_0 (nds (ndf s.F5_0 s.F5_1 s.F5_2 s.F5_3 s.F5_4 s.F5_5 s.F5_6 s.F5_7 s.F5_8) s.n6_1) (Nd.mk (e36_0_25 p s) (e36_0_26 p s) (e36_0_27 p s) (e36_0_28 p s) (e36_0_29 p s) (e36_0_30 p s) (e36_0_31 p s) (e36_0_32 p s) (0 : Int))) j).k
noncomputable def e36_0_17 (p : P36_0) (s : S36_0) : Nat → (Int) := fun (j : Nat) => (gN (rtL p.xh3_0 (nds (ndf s.F5_0 s.F5_1 s.F5_2 s.F5_3 s.F5_4 s.F5_5 s.F5_6 s.F5_7 s.F5_8) s.n6_1) (Nd.mk (e36_0_25 p s) (e36_0_26 p s) (e36_0_27 p s) (e36_0_28 p s) (e36_0_29 p s) (e36_0_30 p s) (e36_0_31 p s) (e36_0_32 p s) (0 : Int))) j).a
noncomputable def e36_0_18 (p : P36_0) (s : S36_0) : Nat → (Int) := fun (j : Nat) => (gN (rtL p.xh3_0 (nds (ndf s.F5_0 s.F5_1 s.F5_2 s.F5_3 s.F5_4 s.F5_5 s.F5_6 s.F5_7 s.F5_8) s.n6_1) (Nd.mk (e36_0_25 p s) (e36_0_26 p s) (e36_0_27 p s) (e36_0_28 p s) (e36_0_29 p s) (e36_0_30 p s) (e36_0_31 p s) (e36_0_32 p s) (0 : Int))) j).b
noncomputable def e36_0_19 (p : P36_0) (s : S36_0) : Nat → (Int) := fun (j : Nat) => (gN (rtL p.xh3_0 (nds (ndf s.F5_0 s.F5_1 s.F5_2 s.F5_3 s.F5_4 s.F5_5 s.F5_6 s.F5_7 s.F5_8) s.n6_1) (Nd.mk (e36_0_25 p s) (e36_0_26 p s) (e36_0_27 p s) (e36_0_28 p s) (e36_0_29 p s) (e36_0_30 p s) (e36_0_31 p s) (e36_0_32 p s) (0 : Int))) j).r
noncomputable def e36_0_20 (p : P36_0) (s : S36_0) : Nat → (Int) := fun (j : Nat) => (gN (rtL p.xh3_0 (nds (ndf s.F5_0 s.F5_1 s.F5_2 s.F5_3 s.F5_4 s.F5_5 s.F5_6 s.F5_7 s.F5_8) s.n6_1) (Nd.mk (e36_0_25 p s) (e36_0_26 p s) (e36_0_27 p s) (e36_0_28 p s) (e36_0_29 p s) (e36_0_30 p s) (e36_0_31 p s) (e36_0_32 p s) (0 : Int))) j).g
noncomputable def e36_0_21 (p : P36_0) (s : S36_0) : Nat → (Int) := fun (j : Nat) => (gN (rtL p.xh3_0 (nds (ndf s.F5_0 s.F5_1 s.F5_2 s.F5_3 s.F5_4 s.F5_5 s.F5_6 s.F5_7 s.F5_8) s.n6_1) (Nd.mk (e36_0_25 p s) (e36_0_26 p s) (e36_0_27 p s) (e36_0_28 p s) (e36_0_29 p s) (e36_0_30 p s) (e36_0_31 p s) (e36_0_32 p s) (0 : Int))) j).s
noncomputable def e36_0_22 (p : P36_0) (s : S36_0) : Nat → (Int) := fun (j : Nat) => (gN (rtL p.xh3_0 (nds (ndf s.F5_0 s.F5_1 s.F5_2 s.F5_3 s.F5_4 s.F5_5 s.F5_6 s.F5_7 s.F5_8) s.n6_1) (Nd.mk (e36_0_25 p s) (e36_0_26 p s) (e36_0_27 p s) (e36_0_28 p s) (e36_0_29 p s) (e36_0_30 p s) (e36_0_31 p s) (e36_0_32 p s) (0 : Int))) j).m
noncomputable def e36_0_23 (p : P36_0) (s : S36_0) : Nat → (Int) := fun (j : Nat) => (gN (rtL p.xh3_0 (nds (ndf s.F5_0 s.F5_1 s.F5_2 s.F5_3 s.F5_4 s.F5_5 s.F5_6 s.F5_7 s.F5_8) s.n6_1) (Nd.mk (e36_0_25 p s) (e36_0_26 p s) (e36_0_27 p s) (e36_0_28 p s) (e36_0_29 p s) (e36_0_30 p s) (e36_0_31 p s) (e36_0_32 p s) (0 : Int))) j).d
theorem n_e36_0_1 (p : P36_0) (s : S36_0) : e36_0_1 p s := by
  unfold e36_0_1
  first
    | (intros; rfl)
    | (intro i; rfl)
    | (intro i _; rfl)
    | (intro _ i; rfl)
    | (intro _ i _; rfl)
    | (refine ⟨?_, ?_⟩ <;> intro i <;> rfl)
    | (refine ⟨?_, ?_, ?_⟩ <;> intro i <;> rfl)
    | (refine ⟨?_, ?_⟩ <;> intro i _ <;> rfl)
    | (repeat' apply And.intro) <;> first | (intro i; rfl) | (intro i _; rfl) | (intro i h; exact absurd h (Nat.not_lt_zero i)) | (intro i; exact scpL_rowSet (by rfl) (by rfl)) | (intro i; exact scpL_rowEl (by kernel_rfl) _)
    | (intros; (repeat' apply And.intro) <;> intros <;> first | rfl | (exact absurd (by assumption) (Nat.not_lt_zero _)))
    | omega
    | decide
theorem n_e36_0_5 (p : P36_0) (s : S36_0) : e36_0_5 p s := by
  unfold e36_0_5
  first
    | (intros; rfl)
    | (intro i; rfl)
    | (intro i _; rfl)
    | (intro _ i; rfl)
    | (intro _ i _; rfl)
    | (refine ⟨?_, ?_⟩ <;> intro i <;> rfl)
    | (refine ⟨?_, ?_, ?_⟩ <;> intro i <;> rfl)
    | (refine ⟨?_, ?_⟩ <;> intro i _ <;> rfl)
    | (repeat' apply And.intro) <;> first | (intro i; rfl) | (intro i _; rfl) | (intro i h; exact absurd h (Nat.not_lt_zero i)) | (intro i; exact scpL_rowSet (by rfl) (by rfl)) | (intro i; exact scpL_rowEl (by kernel_rfl) _)
    | (intros; (repeat' apply And.intro) <;> intros <;> first | rfl | (exact absurd (by assumption) (Nat.not_lt_zero _)))
    | omega
    | decide
theorem n_e36_0_6 (p : P36_0) (s : S36_0) : e36_0_6 p s := by
  unfold e36_0_6
  first
    | (intros; rfl)
    | (intro i; rfl)
    | (intro i _; rfl)
    | (intro _ i; rfl)
    | (intro _ i _; rfl)
    | (refine ⟨?_, ?_⟩ <;> intro i <;> rfl)
    | (refine ⟨?_, ?_, ?_⟩ <;> intro i <;> rfl)
    | (refine ⟨?_, ?_⟩ <;> intro i _ <;> rfl)
    | (repeat' apply And.intro) <;> first | (intro i; rfl) | (intro i _; rfl) | (intro i h; exact absurd h (Nat.not_lt_zero i)) | (intro i; exact scpL_rowSet (by rfl) (by rfl)) | (intro i; exact scpL_rowEl (by kernel_rfl) _)
    | (intros; (repeat' apply And.intro) <;> intros <;> first | rfl | (exact absurd (by assumption) (Nat.not_lt_zero _)))
    | omega
    | decide
theorem n_e36_0_8 (p : P36_0) (s : S36_0) : e36_0_8 p s := by
  unfold e36_0_8
  first
    | (intros; rfl)
    | (intro i; rfl)
    | (intro i _; rfl)
    | (intro _ i; rfl)
    | (intro _ i _; rfl)
    | (refine ⟨?_, ?_⟩ <;> intro i <;> rfl)
    | (refine ⟨?_, ?_, ?_⟩ <;> intro i <;> rfl)
    | (refine ⟨?_, ?_⟩ <;> intro i _ <;> rfl)
    | (repeat' apply And.intro) <;> first | (intro i; rfl) | (intro i _; rfl) | (intro i h; exact absurd h (Nat.not_lt_zero i)) | (intro i; exact scpL_rowSet (by rfl) (by rfl)) | (intro i; exact scpL_rowEl (by kernel_rfl) _)
    | (intros; (repeat' apply And.intro) <;> intros <;> first | rfl | (exact absurd (by assumption) (Nat.not_lt_zero _)))
    | omega
    | decide
theorem n_e36_0_9 (p : P36_0) (s : S36_0) : e36_0_9 p s := by
  unfold e36_0_9
  first
    | (intros; rfl)
    | (intro i; rfl)
    | (intro i _; rfl)
    | (intro _ i; rfl)
    | (intro _ i _; rfl)
    | (refine ⟨?_, ?_⟩ <;> intro i <;> rfl)
    | (refine ⟨?_, ?_, ?_⟩ <;> intro i <;> rfl)
    | (refine ⟨?_, ?_⟩ <;> intro i _ <;> rfl)
    | (repeat' apply And.intro) <;> first | (intro i; rfl) | (intro i _; rfl) | (intro i h; exact absurd h (Nat.not_lt_zero i)) | (intro i; exact scpL_rowSet (by rfl) (by rfl)) | (intro i; exact scpL_rowEl (by kernel_rfl) _)
    | (intros; (repeat' apply And.intro) <;> intros <;> first | rfl | (exact absurd (by assumption) (Nat.not_lt_zero _)))
    | omega
    | decide
noncomputable def rf36_0 (p : P36_0) (s : S36_0) : Tr (Rs th.R S36_0) := (Tr.ite (e36_0_0 p s) (Tr.need (e36_0_1 p s) (Tr.leaf (Rs.out (Ex.exit (0:Nat)) [none, none, none, (some (SV.ptr (1 : Nat) (0:Nat))), none, none, (some (SV.ptr (3 : Nat) (0:Nat))), (some (SV.ptr (4 : Nat) (0:Nat))), none, none, none, none, none, none, none, none, none, none, none, none, none, none, none, none, none, none, none, none, none, none, none, none, none, none, none, none, none, none, none, none, none, none, none, none, none, none, none, none] [(HO.ro (117 : Nat) (8 : Nat) (p.N0) (fun j => [SV.int .u64 (p.F0_0 j), SV.int .i64 (p.F0_1 j), SV.int .u64 (p.F0_2 j), SV.int .i64 (p.F0_3 j), SV.int .i64 (p.F0_4 j), SV.int .i64 (p.F0_5 j), SV.int .i64 (p.F0_6 j), SV.int .u64 (p.F0_7 j)]) (p.O0)), (HO.cells (55 : Nat) [SV.int .u64 (p.xh1_0), SV.nils]), HO.res (s.R2), (HO.cells (55 : Nat) [SV.int .u64 (p.xh3_0), (SV.slc (5) (9 : Nat) (0:Nat) (s.n6_1))]), (HO.cells (175 : Nat) [(SV.ptr (2 : Nat) (0:Nat)), SV.int .u64 (s.xh4_1), SV.int .i64 (s.xh4_2)]), (HO.row (100 : Nat) (9 : Nat) (s.N5) (fun j => [SV.int .u64 (s.F5_0 j), SV.int .i64 (s.F5_1 j), SV.int .u64 (s.F5_2 j), SV.int .i64 (s.F5_3 j), SV.int .i64 (s.F5_4 j), SV.int .i64 (s.F5_5 j), SV.int .i64 (s.F5_6 j), SV.int .u64 (s.F5_7 j), SV.int .i64 (s.F5_8 j)]))]))) (Tr.need (e36_0_2 p s) (Tr.need (e36_0_3 p s) (Tr.need (e36_0_4 p s) (Tr.need (e36_0_5 p s) (Tr.need (e36_0_6 p s) (Tr.need (e36_0_7 p s) (Tr.need (e36_0_8 p s) (Tr.need (e36_0_9 p s) (Tr.leaf (Rs.on (S36_0.mk ((e36_0_10 p s)) ((e36_0_11 p s)) ((e36_0_12 p s)) ((e36_0_13 p s)) ((e36_0_14 p s)) ((e36_0_12 p s)) ((fun j => (e36_0_15 p s j))) ((fun j => (e36_0_16 p s j))) ((fun j => (e36_0_17 p s j))) ((fun j => (e36_0_18 p s j))) ((fun j => (e36_0_19 p s j))) ((fun j => (e36_0_20 p s j))) ((fun j => (e36_0_21 p s j))) ((fun j => (e36_0_22 p s j))) ((fun j => (e36_0_23 p s j)))))))))))))))
noncomputable def r36_0 (p : P36_0) (s : S36_0) : Tr (Rs th.R S36_0) := (Tr.ite (e36_0_0 p s) (Tr.leaf (Rs.out (Ex.exit (0:Nat)) [none, none, none, (some (SV.ptr (1 : Nat) (0:Nat))), none, none, (some (SV.ptr (3 : Nat) (0:Nat))), (some (SV.ptr (4 : Nat) (0:Nat))), none, none, none, none, none, none, none, none, none, none, none, none, none, none, none, none, none, none, none, none, none, none, none, none, none, none, none, none, none, none, none, none, none, none, none, none, none, none, none, none] [(HO.ro (117 : Nat) (8 : Nat) (p.N0) (fun j => [SV.int .u64 (p.F0_0 j), SV.int .i64 (p.F0_1 j), SV.int .u64 (p.F0_2 j), SV.int .i64 (p.F0_3 j), SV.int .i64 (p.F0_4 j), SV.int .i64 (p.F0_5 j), SV.int .i64 (p.F0_6 j), SV.int .u64 (p.F0_7 j)]) (p.O0)), (HO.cells (55 : Nat) [SV.int .u64 (p.xh1_0), SV.nils]), HO.res (s.R2), (HO.cells (55 : Nat) [SV.int .u64 (p.xh3_0), (SV.slc (5) (9 : Nat) (0:Nat) (s.n6_1))]), (HO.cells (175 : Nat) [(SV.ptr (2 : Nat) (0:Nat)), SV.int .u64 (s.xh4_1), SV.int .i64 (s.xh4_2)]), (HO.row (100 : Nat) (9 : Nat) (s.N5) (fun j => [SV.int .u64 (s.F5_0 j), SV.int .i64 (s.F5_1 j), SV.int .u64 (s.F5_2 j), SV.int .i64 (s.F5_3 j), SV.int .i64 (s.F5_4 j), SV.int .i64 (s.F5_5 j), SV.int .i64 (s.F5_6 j), SV.int .u64 (s.F5_7 j), SV.int .i64 (s.F5_8 j)]))])) (Tr.need (e36_0_2 p s) (Tr.need (e36_0_3 p s) (Tr.need (e36_0_4 p s) (Tr.need (e36_0_7 p s) (Tr.leaf (Rs.on (S36_0.mk ((e36_0_10 p s)) ((e36_0_11 p s)) ((e36_0_12 p s)) ((e36_0_13 p s)) ((e36_0_14 p s)) ((e36_0_12 p s)) ((fun j => (e36_0_15 p s j))) ((fun j => (e36_0_16 p s j))) ((fun j => (e36_0_17 p s j))) ((fun j => (e36_0_18 p s j))) ((fun j => (e36_0_19 p s j))) ((fun j => (e36_0_20 p s j))) ((fun j => (e36_0_21 p s j))) ((fun j => (e36_0_22 p s j))) ((fun j => (e36_0_23 p s j)))))))))))
noncomputable def E36_0 : St th.R → Out th := evCode th Try.prog (auto th Try.prog nice42n [] 20) (autoH [] [] [] [] : Hints th) (lpAt Try.prog 36 0)
theorem B36_0 : CodeSound th Try.prog (lpAt Try.prog 36 0) E36_0 := evCode_sound (T := th) (P := Try.prog) (tbl := (auto th Try.prog nice42n [] 20)) (auto_sound (nice := nice42n) (us := []) nok42n 20) (autoH [] [] [] [] : Hints th) _ (LoopsOk_mem (fun _ => rfl) _ fun b hb L hL => by cases hL)
noncomputable def L36_0 : St th.R → Out th := loopL d36_0 ofV36_0 r36_0
theorem h1_36_0 (p : P36_0) (s : S36_0) : bld d36_0.tm (toV36_0 p s) = some (I36_0 p s) := by kernel_rfl
theorem h2_36_0 (l : List (Vl th.R)) (p : P36_0) (s : S36_0) (h : ofV36_0 l = some (p, s)) : l = toV36_0 p s := by
  unfold ofV36_0 at h
  split at h
  · cases h; rfl
  · cases h
theorem h3_36_0 (p : P36_0) (s : S36_0) : cvE d36_0 (E36_0 (I36_0 p s)) = some ((rf36_0 p s).map (Rs.map (toV36_0 p))) := by kernel_rfl
theorem h3g_36_0 (p : P36_0) (s : S36_0) : (rf36_0 p s).get = (r36_0 p s).get := by kernel_rfl
theorem h4_36_0 (p : P36_0) (s s1 : S36_0) : outH d36_0.dirt d36_0.n0 (r36_0 p s) = repH (maskH d36_0.dirt 0 d36_0.n0 (I36_0 p s1).heap) (r36_0 p s) := by kernel_rfl
theorem ls36_0 : CodeSound th Try.prog (.loop (lpAt Try.prog 36 0)) L36_0 := loopL_sound B36_0 d36_0 I36_0 toV36_0 (by kernel_rfl) h1_36_0 h2_36_0
  (fun p s => ⟨(rf36_0 p s).map (Rs.map (toV36_0 p)), h3_36_0 p s, fun h => by
    rw [Tr.map_ok]
    unfold r36_0 at h; unfold rf36_0
    simp only [Tr.ok, n_e36_0_1, n_e36_0_5, n_e36_0_6, n_e36_0_8, n_e36_0_9, true_and, and_true, forall_const, implies_true] at h ⊢
    try exact h, by rw [Tr.map_get, h3g_36_0 p s]⟩) h4_36_0
theorem ok36 : LoopsOk th Try.prog (autoH [(7, L36_0)] [] [] [] : Hints th) (bodyOf Try.prog 36) := autoH_ok (bs := [lpAt Try.prog 36 0]) (by kernel_rfl) fun b hb L hL => by
  simp only [List.mem_cons, List.not_mem_nil, or_false] at hb
  rcases hb with rfl
  · have e : lookL [(7, L36_0)] (firstReg (lpAt Try.prog 36 0)) = some L36_0 := by kernel_rfl
    rw [e] at hL; cases hL
    exact ls36_0
noncomputable def f36_16 (v : V36) : (S36_0) := lastS (r36_0 (P36_0.mk v.L (↑v.L : Int) v.Q v.ob v.pt v.pk v.pa v.pb v.pr v.pg v.ps v.pm (0 : Int) (65536 : Int))) (S36_0.mk (0 : Int) (newM (65536 : Int)) (0:Nat) (0 : Int) (0 : Int) (0:Nat) (colI (fun (j : Nat) => []) (0:Nat)) (colI (fun (j : Nat) => []) (1 : Nat)) (colI (fun (j : Nat) => []) (2 : Nat)) (colI (fun (j : Nat) => []) (3 : Nat)) (colI (fun (j : Nat) => []) (4 : Nat)) (colI (fun (j : Nat) => []) (5 : Nat)) (colI (fun (j : Nat) => []) (6 : Nat)) (colI (fun (j : Nat) => []) (7 : Nat)) (colI (fun (j : Nat) => []) (8 : Nat)))
noncomputable def f36_0 (v : V36) : (Prop) := false = false → (∀ (i : Nat), i < v.Q → (fun (j : Nat) => [SV.int IntKind.u64 (v.pt j), SV.int IntKind.i64 (v.pk j), SV.int IntKind.u64 (v.pa j), SV.int IntKind.i64 (v.pb j), SV.int IntKind.i64 (v.pr j), SV.int IntKind.i64 (v.pg j), SV.int IntKind.i64 (v.ps j), SV.int IntKind.u64 (v.pm j)]) i = elC (fun (j : Nat) => [SV.int IntKind.u64 (v.pt j), SV.int IntKind.i64 (v.pk j), SV.int IntKind.u64 (v.pa j), SV.int IntKind.i64 (v.pb j), SV.int IntKind.i64 (v.pr j), SV.int IntKind.i64 (v.pg j), SV.int IntKind.i64 (v.ps j), SV.int IntKind.u64 (v.pm j)]) (0:Nat) [Ck.int IntKind.u64, Ck.int IntKind.i64, Ck.int IntKind.u64, Ck.int IntKind.i64, Ck.int IntKind.i64, Ck.int IntKind.i64, Ck.int IntKind.i64, Ck.int IntKind.u64] i) ∧ ∀ (i : Nat), i < (0:Nat) → (fun (j : Nat) => []) i = elC (fun (j : Nat) => []) (0:Nat) [Ck.int IntKind.u64, Ck.int IntKind.i64, Ck.int IntKind.u64, Ck.int IntKind.i64, Ck.int IntKind.i64, Ck.int IntKind.i64, Ck.int IntKind.i64, Ck.int IntKind.u64, Ck.int IntKind.i64] i
noncomputable def f36_1 (v : V36) : (Prop) := false = false → LT (r36_0 (P36_0.mk v.L (↑v.L : Int) v.Q v.ob v.pt v.pk v.pa v.pb v.pr v.pg v.ps v.pm (0 : Int) (65536 : Int))) (S36_0.mk (0 : Int) (newM (65536 : Int)) (0:Nat) (0 : Int) (0 : Int) (0:Nat) (colI (fun (j : Nat) => []) (0:Nat)) (colI (fun (j : Nat) => []) (1 : Nat)) (colI (fun (j : Nat) => []) (2 : Nat)) (colI (fun (j : Nat) => []) (3 : Nat)) (colI (fun (j : Nat) => []) (4 : Nat)) (colI (fun (j : Nat) => []) (5 : Nat)) (colI (fun (j : Nat) => []) (6 : Nat)) (colI (fun (j : Nat) => []) (7 : Nat)) (colI (fun (j : Nat) => []) (8 : Nat)))
noncomputable def f36_2 (v : V36) : (Nat) := (f36_16 v).n6_1
noncomputable def f36_3 (v : V36) : (th.R) := (f36_16 v).R2
noncomputable def f36_4 (v : V36) : (Int) := (f36_16 v).xh4_1
noncomputable def f36_5 (v : V36) : (Int) := (f36_16 v).xh4_2
noncomputable def f36_6 (v : V36) : (Nat) := (f36_16 v).N5
noncomputable def f36_7 (v : V36) : Nat → (Int) := fun (j : Nat) => (f36_16 v).F5_0 j
noncomputable def f36_8 (v : V36) : Nat → (Int) := fun (j : Nat) => (f36_16 v).F5_1 j
noncomputable def f36_9 (v : V36) : Nat → (Int) := fun (j : Nat) => (f36_16 v).F5_2 j
noncomputable def f36_10 (v : V36) : Nat → (Int) := fun (j : Nat) => (f36_16 v).F5_3 j
noncomputable def f36_11 (v : V36) : Nat → (Int) := fun (j : Nat) => (f36_16 v).F5_4 j
noncomputable def f36_12 (v : V36) : Nat → (Int) := fun (j : Nat) => (f36_16 v).F5_5 j
noncomputable def f36_13 (v : V36) : Nat → (Int) := fun (j : Nat) => (f36_16 v).F5_6 j
noncomputable def f36_14 (v : V36) : Nat → (Int) := fun (j : Nat) => (f36_16 v).F5_7 j
noncomputable def f36_15 (v : V36) : Nat → (Int) := fun (j : Nat) => (f36_16 v).F5_8 j
theorem n_f36_0 (v : V36) : f36_0 v := by
  unfold f36_0
  first
    | (intros; rfl)
    | (intro i; rfl)
    | (intro i _; rfl)
    | (intro _ i; rfl)
    | (intro _ i _; rfl)
    | (refine ⟨?_, ?_⟩ <;> intro i <;> rfl)
    | (refine ⟨?_, ?_, ?_⟩ <;> intro i <;> rfl)
    | (refine ⟨?_, ?_⟩ <;> intro i _ <;> rfl)
    | (repeat' apply And.intro) <;> first | (intro i; rfl) | (intro i _; rfl) | (intro i h; exact absurd h (Nat.not_lt_zero i)) | (intro i; exact scpL_rowSet (by rfl) (by rfl)) | (intro i; exact scpL_rowEl (by kernel_rfl) _)
    | (intros; (repeat' apply And.intro) <;> intros <;> first | rfl | (exact absurd (by assumption) (Nat.not_lt_zero _)))
    | omega
    | decide
noncomputable def ff36 (v : V36) : Tr (Fin th.R) := (Tr.need (f36_0 v) (Tr.need (f36_1 v) (Tr.ite (false) (Tr.leaf ((SV.tup [SV.nilp, (SV.agg [(SV.int .u64 (65536 : Int)), SV.nils])]), [(HO.ro (117 : Nat) (8 : Nat) (v.Q) (fun j => [SV.int .u64 (v.pt j), SV.int .i64 (v.pk j), SV.int .u64 (v.pa j), SV.int .i64 (v.pb j), SV.int .i64 (v.pr j), SV.int .i64 (v.pg j), SV.int .i64 (v.ps j), SV.int .u64 (v.pm j)]) (v.ob))], List.nil)) (Tr.leaf ((SV.tup [(SV.ptr (4 : Nat) (0:Nat)), (SV.agg [(SV.int .u64 (65536 : Int)), (SV.slc (5 : Nat) (9 : Nat) (0:Nat) (f36_2 v))])]), [(HO.ro (117 : Nat) (8 : Nat) (v.Q) (fun j => [SV.int .u64 (v.pt j), SV.int .i64 (v.pk j), SV.int .u64 (v.pa j), SV.int .i64 (v.pb j), SV.int .i64 (v.pr j), SV.int .i64 (v.pg j), SV.int .i64 (v.ps j), SV.int .u64 (v.pm j)]) (v.ob)), (HO.cells (55 : Nat) [(SV.int .u64 (65536 : Int)), (SV.slc (5 : Nat) (9 : Nat) (0:Nat) (f36_2 v))]), HO.res (f36_3 v), (HO.cells (55 : Nat) [(SV.int .u64 (65536 : Int)), (SV.slc (5 : Nat) (9 : Nat) (0:Nat) (f36_2 v))]), (HO.cells (175 : Nat) [(SV.ptr (2 : Nat) (0:Nat)), SV.int .u64 (f36_4 v), SV.int .i64 (f36_5 v)]), (HO.row (100 : Nat) (9 : Nat) (f36_6 v) (fun j => [SV.int .u64 (f36_7 v j), SV.int .i64 (f36_8 v j), SV.int .u64 (f36_9 v j), SV.int .i64 (f36_10 v j), SV.int .i64 (f36_11 v j), SV.int .i64 (f36_12 v j), SV.int .i64 (f36_13 v j), SV.int .u64 (f36_14 v j), SV.int .i64 (f36_15 v j)]))], [(1 : Nat), (2 : Nat), (3 : Nat), (4 : Nat), 3])))))
noncomputable def f36 (v : V36) : Tr (Fin th.R) := (Tr.need (f36_1 v) (Tr.ite (false) (Tr.leaf ((SV.tup [SV.nilp, (SV.agg [(SV.int .u64 (65536 : Int)), SV.nils])]), [(HO.ro (117 : Nat) (8 : Nat) (v.Q) (fun j => [SV.int .u64 (v.pt j), SV.int .i64 (v.pk j), SV.int .u64 (v.pa j), SV.int .i64 (v.pb j), SV.int .i64 (v.pr j), SV.int .i64 (v.pg j), SV.int .i64 (v.ps j), SV.int .u64 (v.pm j)]) (v.ob))], [])) (Tr.leaf ((SV.tup [(SV.ptr (4 : Nat) (0:Nat)), (SV.agg [(SV.int .u64 (65536 : Int)), (SV.slc (5 : Nat) (9 : Nat) (0:Nat) (f36_2 v))])]), [(HO.ro (117 : Nat) (8 : Nat) (v.Q) (fun j => [SV.int .u64 (v.pt j), SV.int .i64 (v.pk j), SV.int .u64 (v.pa j), SV.int .i64 (v.pb j), SV.int .i64 (v.pr j), SV.int .i64 (v.pg j), SV.int .i64 (v.ps j), SV.int .u64 (v.pm j)]) (v.ob)), (HO.cells (55 : Nat) [(SV.int .u64 (65536 : Int)), (SV.slc (5 : Nat) (9 : Nat) (0:Nat) (f36_2 v))]), HO.res (f36_3 v), (HO.cells (55 : Nat) [(SV.int .u64 (65536 : Int)), (SV.slc (5 : Nat) (9 : Nat) (0:Nat) (f36_2 v))]), (HO.cells (175 : Nat) [(SV.ptr (2 : Nat) (0:Nat)), SV.int .u64 (f36_4 v), SV.int .i64 (f36_5 v)]), (HO.row (100 : Nat) (9 : Nat) (f36_6 v) (fun j => [SV.int .u64 (f36_7 v j), SV.int .i64 (f36_8 v j), SV.int .u64 (f36_9 v j), SV.int .i64 (f36_10 v j), SV.int .i64 (f36_11 v j), SV.int .i64 (f36_12 v j), SV.int .i64 (f36_13 v j), SV.int .u64 (f36_14 v j), SV.int .i64 (f36_15 v j)]))], []))))
noncomputable def C36 : CF th.R := fnC d36 ofV36 (f36 )
theorem q36 (v : V36) : (evFn th Try.prog (auto th Try.prog nice42n [] 20) (autoH [(7, L36_0)] [] [] [] : Hints th) 36) (A36 v) (H36 v) = some (ff36 v) := by kernel_rfl
theorem qg36 (v : V36) : ((ff36 v).map (setD [])).get = (f36 v).get := by kernel_rfl
theorem qd36 (v : V36) : allD 1 [] (ff36 v) = true := by kernel_rfl
theorem s36 : Sound Try.prog th 36 (C36 ) := fnC_sound (evFn_sound' (T := th) (P := Try.prog) (tbl := (auto th Try.prog nice42n [] 20)) (auto_sound (nice := nice42n) (us := []) nok42n 20) (H := (autoH [(7, L36_0)] [] [] [] : Hints th)) (k := 36) (fnLoops ok36)) d36 A36 H36 toV36 (by kernel_rfl) (fun v => by kernel_rfl)
  (fun l v h => by
    unfold ofV36 at h
    split at h
    · cases h; rfl
    · cases h)
  [] (fun v => ⟨ff36 v, q36 v, fun h => by
    unfold f36 at h; unfold ff36
    simp only [Tr.ok, n_f36_0, true_and, and_true, forall_const, implies_true] at h ⊢
    try exact h, qg36 v, qd36 v⟩)
theorem qdd36 (v : V36) : (f36 v).get.2.2 = [] := by
  rw [← qg36, Tr.map_get]; rfl
end Go.Sx.M

namespace Go.Sx.M
open Go Go.Sx Go.Proofs Go.RowKit
set_option maxRecDepth 100000
def Q36 (p : P36_0) (s : S36_0) : Prop := s.N5 = s.n6_1 ∧ ((⟨s.R2, s.xh4_1, s.xh4_2⟩ : TS), nds (ndf s.F5_0 s.F5_1 s.F5_2 s.F5_3 s.F5_4 s.F5_5 s.F5_6 s.F5_7 s.F5_8) s.n6_1) = opS (nds (ndf p.F0_0 p.F0_1 p.F0_2 p.F0_3 p.F0_4 p.F0_5 p.F0_6 p.F0_7 (fun _ => 0)) p.n24)
theorem l36 {p : P36_0} {s : S36_0} (hM : p.N0 = p.n24) (hL : p.n24 ≤ 1000) (h25 : p.x25 = p.n24) (hz : p.xh3_0 = 65536) (hs : s.x26 = 0 ∧ s.R2 = newM 65536 ∧ s.n6_1 = 0 ∧ s.xh4_1 = 0 ∧ s.xh4_2 = 0 ∧ s.N5 = 0)
    (hR : ∀ j, j < p.n24 → U64 (p.F0_0 j) ∧ SlR (slN (ndf p.F0_0 p.F0_1 p.F0_2 p.F0_3 p.F0_4 p.F0_5 p.F0_6 p.F0_7 (fun _ => 0) j))) :
    LT (r36_0 p) s ∧ Q36 p (lastS (r36_0 p) s) := by
  refine LT.post (fun s : S36_0 => ∃ i : Nat, s.x26 = i ∧ i ≤ p.n24 ∧ s.N5 = s.n6_1 ∧ ((⟨s.R2, s.xh4_1, s.xh4_2⟩ : TS), nds (ndf s.F5_0 s.F5_1 s.F5_2 s.F5_3 s.F5_4 s.F5_5 s.F5_6 s.F5_7 s.F5_8) s.n6_1) = opS (nds (ndf p.F0_0 p.F0_1 p.F0_2 p.F0_3 p.F0_4 p.F0_5 p.F0_6 p.F0_7 (fun _ => 0)) i)) (Q36 p)
    (fun s : S36_0 => (p.n24 - s.x26).toNat) ?_ ?_
  rotate_left
  · obtain ⟨a1, a2, a3, a4, a5, a6⟩ := hs
    refine ⟨0, a1, Nat.zero_le _, by rw [a3, a6], ?_⟩
    rw [a2, a3, a4, a5]
    rfl
  rintro ⟨x, R, n, f, c, N, F0, F1, F2, F3, F4, F5, F6, F7, F8⟩ ⟨i, g1, g2, g3, g4⟩
  simp only at g1 g3 g4
  subst g1
  have w2 : IntKind.i64.wrap ((i : Int) + 1) = ((i + 1 : Nat) : Int) := by rw [wi (by omega) (by omega)]; omega
  have hdd : e36_0_0 p ⟨i, R, n, f, c, N, F0, F1, F2, F3, F4, F5, F6, F7, F8⟩ = cnd (decide ((i : Int) < (p.n24 : Int))) false true := by simp only [e36_0_0, h25]
  by_cases hc : i < p.n24
  · have hd : cnd (decide ((i : Int) < (p.n24 : Int))) false true = false := by rw [decide_eq_true (by omega)]; rfl
    obtain ⟨q1, q2⟩ := hR i hc
    have ht : TR (⟨R, f, c⟩ : TS) := by
      have := opS_R (ndf p.F0_0 p.F0_1 p.F0_2 p.F0_3 p.F0_4 p.F0_5 p.F0_6 p.F0_7 (fun _ => 0)) i fun j hj => hR j (by omega)
      rw [← g4] at this
      exact this
    have hn : n ≤ i := by
      have := opS_len (ndf p.F0_0 p.F0_1 p.F0_2 p.F0_3 p.F0_4 p.F0_5 p.F0_6 p.F0_7 (fun _ => 0)) i
      rw [← g4] at this
      rw [nds_len] at this
      exact this
    have hi0 : 0 + (i : Int).toNat = i := by omega
    simp only [r36_0, hdd, hd, Tr.ok, Tr.get]
    refine ⟨⟨(fun e => by cases e), fun _ => ⟨⟨by simp only; omega, by simp only; omega⟩, ?_, ?_, ?_, trivial⟩⟩, .inr ⟨_, rfl, ⟨i + 1, ?_, by omega, ?_, ?_⟩, ?_⟩⟩
    · simp only [e36_0_3, e36_0_24]; omega
    · simp only [e36_0_4, e36_0_24, e36_0_25, e36_0_26, e36_0_27, e36_0_28, e36_0_29, e36_0_30, e36_0_31, e36_0_32, hi0]
      exact ⟨q1, q2, ht⟩
    · exact ⟨g3, by show n ≤ 100000; omega⟩
    · exact w2
    · rfl
    · rw [opS_succ, ← g4]
      simp only [e36_0_11, e36_0_12, e36_0_13, e36_0_14, e36_0_15, e36_0_16, e36_0_17, e36_0_18, e36_0_19, e36_0_20, e36_0_21, e36_0_22, e36_0_23, e36_0_24, e36_0_25, e36_0_26, e36_0_27, e36_0_28, e36_0_29, e36_0_30, e36_0_31, e36_0_32, e36_0_33, e36_0_34, hi0, hz, ndf_gN]
      rfl
    · show ((p.n24 : Int) - (e36_0_10 p _)).toNat < ((p.n24 : Int) - (i : Int)).toNat
      simp only [e36_0_10, w2]
      omega
  · have hd : cnd (decide ((i : Int) < (p.n24 : Int))) false true = true := by rw [decide_eq_false (by omega)]; rfl
    simp only [r36_0, hdd, hd, Tr.ok, Tr.get]
    have : i = p.n24 := by omega
    subst this
    exact ⟨⟨fun _ => trivial, (fun e => by cases e)⟩, .inl ⟨⟨_, _, _, rfl⟩, g3, g4⟩⟩
def pre36 (v : V36) : Prop := (v.Q = v.L ∧ v.L ≤ 1000) ∧ ∀ j, j < v.L → U64 (v.pt j) ∧ SlR (slN (ndf v.pt v.pk v.pa v.pb v.pr v.pg v.ps v.pm (fun _ => 0) j))
theorem n36 (v : V36) (h : pre36 v) : (f36 v).ok ∧ (f36 v).get.1 = .tup [.ptr 4 0, .agg [.int .u64 65536, .slc 5 9 0 (opS (nds (ndf v.pt v.pk v.pa v.pb v.pr v.pg v.ps v.pm (fun _ => 0)) v.L)).2.length]] ∧ HOws (f36 v).get.2.1 [HO.ro 117 8 v.Q (fun j => [.int .u64 (v.pt j), .int .i64 (v.pk j), .int .u64 (v.pa j), .int .i64 (v.pb j), .int .i64 (v.pr j), .int .i64 (v.pg j), .int .i64 (v.ps j), .int .u64 (v.pm j)]) v.ob, HO.gone, HO.res (opS (nds (ndf v.pt v.pk v.pa v.pb v.pr v.pg v.ps v.pm (fun _ => 0)) v.L)).1.M, HO.gone, HO.cells 175 [.ptr 2 0, .int .u64 (opS (nds (ndf v.pt v.pk v.pa v.pb v.pr v.pg v.ps v.pm (fun _ => 0)) v.L)).1.f, .int .i64 (opS (nds (ndf v.pt v.pk v.pa v.pb v.pr v.pg v.ps v.pm (fun _ => 0)) v.L)).1.c], rowN ((opS (nds (ndf v.pt v.pk v.pa v.pb v.pr v.pg v.ps v.pm (fun _ => 0)) v.L)).2)] := by
  obtain ⟨⟨h1, h2⟩, h3⟩ := h
  obtain ⟨k1, k2, k3⟩ := l36 (p := P36_0.mk v.L (v.L : Int) v.Q v.ob v.pt v.pk v.pa v.pb v.pr v.pg v.ps v.pm 0 65536) (s := S36_0.mk 0 (newM 65536) 0 0 0 0 _ _ _ _ _ _ _ _ _) h1 h2 rfl rfl ⟨rfl, rfl, rfl, rfl, rfl, rfl⟩ h3
  have k3 : ((⟨(f36_16 v).R2, (f36_16 v).xh4_1, (f36_16 v).xh4_2⟩ : TS), nds (ndf (f36_16 v).F5_0 (f36_16 v).F5_1 (f36_16 v).F5_2 (f36_16 v).F5_3 (f36_16 v).F5_4 (f36_16 v).F5_5 (f36_16 v).F5_6 (f36_16 v).F5_7 (f36_16 v).F5_8) (f36_16 v).n6_1) = opS (nds (ndf v.pt v.pk v.pa v.pb v.pr v.pg v.ps v.pm (fun _ => 0)) v.L) := k3
  have k2 : (f36_16 v).N5 = (f36_16 v).n6_1 := k2
  have e1 := congrArg (fun z => z.1.M) k3
  have e2 := congrArg (fun z => z.1.f) k3
  have e3 := congrArg (fun z => z.1.c) k3
  have e4 := congrArg (fun z => z.2) k3
  have e5 := congrArg List.length e4
  simp only [nds_len] at e1 e2 e3 e4 e5
  refine ⟨⟨fun _ => k1, (fun e => by cases e), fun _ => trivial⟩, ?_, ?_⟩
  · simp only [f36, Tr.get, f36_2, e5]
  · simp only [f36, Tr.get, f36_2, f36_3, f36_4, f36_5, f36_6, f36_7, f36_8, f36_9, f36_10, f36_11, f36_12, f36_13, f36_14, f36_15]
    rw [e1, e2, e3]
    refine .cons (.inl rfl) (.cons (.inr (.inl rfl)) (.cons (.inl rfl) (.cons (.inr (.inl rfl)) (.cons (.inl rfl) (.cons ?_ .nil)))))
    rw [← e4]
    exact rowA k2
noncomputable def f36n (v : V36) : Tr (Fin th.R) := .need (pre36 v) (.leaf (.tup [.ptr 4 0, .agg [.int .u64 65536, .slc 5 9 0 (opS (nds (ndf v.pt v.pk v.pa v.pb v.pr v.pg v.ps v.pm (fun _ => 0)) v.L)).2.length]], [.ro 117 8 v.Q (fun j => [.int .u64 (v.pt j), .int .i64 (v.pk j), .int .u64 (v.pa j), .int .i64 (v.pb j), .int .i64 (v.pr j), .int .i64 (v.pg j), .int .i64 (v.ps j), .int .u64 (v.pm j)]) v.ob, .gone, .res (opS (nds (ndf v.pt v.pk v.pa v.pb v.pr v.pg v.ps v.pm (fun _ => 0)) v.L)).1.M, .gone, .cells 175 [.ptr 2 0, .int .u64 (opS (nds (ndf v.pt v.pk v.pa v.pb v.pr v.pg v.ps v.pm (fun _ => 0)) v.L)).1.f, .int .i64 (opS (nds (ndf v.pt v.pk v.pa v.pb v.pr v.pg v.ps v.pm (fun _ => 0)) v.L)).1.c], rowN ((opS (nds (ndf v.pt v.pk v.pa v.pb v.pr v.pg v.ps v.pm (fun _ => 0)) v.L)).2)], []))
theorem s36n : Sound Try.prog th 36 (fnC d36 ofV36 f36n) := fnC_refine s36 fun v h => by
  obtain ⟨hp, _⟩ := h
  obtain ⟨a, b, c⟩ := n36 v hp
  exact ⟨a, b.symm, (qdd36 v).symm, c, by show 1 ≤ 6; decide⟩
noncomputable def D36 : CF th.R := fnC d36 ofV36 f36n
noncomputable def nice36n : List (Nat × CF th.R) := nice42n
theorem nok36n : NiceOk Try.prog th nice36n := nok42n
end Go.Sx.M

namespace Go.Sx.M
open Go Go.Sx Go.Proofs Go.RowKit
set_option maxRecDepth 100000
def Q36r (p : P36r_0) (s : S36r_0) : Prop := s.N5 = s.n6_1 ∧ ((⟨s.R2, s.xh4_1, s.xh4_2⟩ : TS), nds (ndf s.F5_0 s.F5_1 s.F5_2 s.F5_3 s.F5_4 s.F5_5 s.F5_6 s.F5_7 s.F5_8) s.n6_1) = opS (nds (ndf p.F0_0 p.F0_1 p.F0_2 p.F0_3 p.F0_4 p.F0_5 p.F0_6 p.F0_7 (fun _ => 0)) p.n24)
theorem l36r {p : P36r_0} {s : S36r_0} (hM : p.N0 = p.n24) (hL : p.n24 ≤ 1000) (h25 : p.x25 = p.n24) (hz : p.xh3_0 = 65536) (hs : s.x26 = 0 ∧ s.R2 = newM 65536 ∧ s.n6_1 = 0 ∧ s.xh4_1 = 0 ∧ s.xh4_2 = 0 ∧ s.N5 = 0)
    (hR : ∀ j, j < p.n24 → U64 (p.F0_0 j) ∧ SlR (slN (ndf p.F0_0 p.F0_1 p.F0_2 p.F0_3 p.F0_4 p.F0_5 p.F0_6 p.F0_7 (fun _ => 0) j))) :
    LT (r36r_0 p) s ∧ Q36r p (lastS (r36r_0 p) s) := by
  refine LT.post (fun s : S36r_0 => ∃ i : Nat, s.x26 = i ∧ i ≤ p.n24 ∧ s.N5 = s.n6_1 ∧ ((⟨s.R2, s.xh4_1, s.xh4_2⟩ : TS), nds (ndf s.F5_0 s.F5_1 s.F5_2 s.F5_3 s.F5_4 s.F5_5 s.F5_6 s.F5_7 s.F5_8) s.n6_1) = opS (nds (ndf p.F0_0 p.F0_1 p.F0_2 p.F0_3 p.F0_4 p.F0_5 p.F0_6 p.F0_7 (fun _ => 0)) i)) (Q36r p)
    (fun s : S36r_0 => (p.n24 - s.x26).toNat) ?_ ?_
  rotate_left
  · obtain ⟨a1, a2, a3, a4, a5, a6⟩ := hs
    refine ⟨0, a1, Nat.zero_le _, by rw [a3, a6], ?_⟩
    rw [a2, a3, a4, a5]
    rfl
  rintro ⟨x, R, n, f, c, N, F0, F1, F2, F3, F4, F5, F6, F7, F8⟩ ⟨i, g1, g2, g3, g4⟩
  simp only at g1 g3 g4
  subst g1
  have w2 : IntKind.i64.wrap ((i : Int) + 1) = ((i + 1 : Nat) : Int) := by rw [wi (by omega) (by omega)]; omega
  have hdd : e36r_0_0 p ⟨i, R, n, f, c, N, F0, F1, F2, F3, F4, F5, F6, F7, F8⟩ = cnd (decide ((i : Int) < (p.n24 : Int))) false true := by simp only [e36r_0_0, h25]
  by_cases hc : i < p.n24
  · have hd : cnd (decide ((i : Int) < (p.n24 : Int))) false true = false := by rw [decide_eq_true (by omega)]; rfl
    obtain ⟨q1, q2⟩ := hR i hc
    have ht : TR (⟨R, f, c⟩ : TS) := by
      have := opS_R (ndf p.F0_0 p.F0_1 p.F0_2 p.F0_3 p.F0_4 p.F0_5 p.F0_6 p.F0_7 (fun _ => 0)) i fun j hj => hR j (by omega)
      rw [← g4] at this
      exact this
    have hn : n ≤ i := by
      have := opS_len (ndf p.F0_0 p.F0_1 p.F0_2 p.F0_3 p.F0_4 p.F0_5 p.F0_6 p.F0_7 (fun _ => 0)) i
      rw [← g4] at this
      rw [nds_len] at this
      exact this
    have hi0 : 0 + (i : Int).toNat = i := by omega
    simp only [r36r_0, hdd, hd, Tr.ok, Tr.get]
    refine ⟨⟨(fun e => by cases e), fun _ => ⟨⟨by simp only; omega, by simp only; omega⟩, ?_, ?_, ?_, trivial⟩⟩, .inr ⟨_, rfl, ⟨i + 1, ?_, by omega, ?_, ?_⟩, ?_⟩⟩
    · simp only [e36r_0_3, e36r_0_24]; omega
    · simp only [e36r_0_4, e36r_0_24, e36r_0_25, e36r_0_26, e36r_0_27, e36r_0_28, e36r_0_29, e36r_0_30, e36r_0_31, e36r_0_32, hi0]
      exact ⟨q1, q2, ht⟩
    · exact ⟨g3, by show n ≤ 100000; omega⟩
    · exact w2
    · rfl
    · rw [opS_succ, ← g4]
      simp only [e36r_0_11, e36r_0_12, e36r_0_13, e36r_0_14, e36r_0_15, e36r_0_16, e36r_0_17, e36r_0_18, e36r_0_19, e36r_0_20, e36r_0_21, e36r_0_22, e36r_0_23, e36r_0_24, e36r_0_25, e36r_0_26, e36r_0_27, e36r_0_28, e36r_0_29, e36r_0_30, e36r_0_31, e36r_0_32, e36r_0_33, e36r_0_34, hi0, hz, ndf_gN]
      rfl
    · show ((p.n24 : Int) - (e36r_0_10 p _)).toNat < ((p.n24 : Int) - (i : Int)).toNat
      simp only [e36r_0_10, w2]
      omega
  · have hd : cnd (decide ((i : Int) < (p.n24 : Int))) false true = true := by rw [decide_eq_false (by omega)]; rfl
    simp only [r36r_0, hdd, hd, Tr.ok, Tr.get]
    have : i = p.n24 := by omega
    subst this
    exact ⟨⟨fun _ => trivial, (fun e => by cases e)⟩, .inl ⟨⟨_, _, _, rfl⟩, g3, g4⟩⟩
def pre36r (v : V36r) : Prop := (v.Q = v.L ∧ v.L ≤ 1000) ∧ ∀ j, j < v.L → U64 (v.pt j) ∧ SlR (slN (ndf v.pt v.pk v.pa v.pb v.pr v.pg v.ps v.pm (fun _ => 0) j))
theorem n36r (v : V36r) (h : pre36r v) : (f36r v).ok ∧ (f36r v).get.1 = .tup [.ptr 4 0, .agg [.int .u64 65536, .slc 5 9 0 (opS (nds (ndf v.pt v.pk v.pa v.pb v.pr v.pg v.ps v.pm (fun _ => 0)) v.L)).2.length]] ∧ HOws (f36r v).get.2.1 [HO.row 117 8 v.Q (fun j => [.int .u64 (v.pt j), .int .i64 (v.pk j), .int .u64 (v.pa j), .int .i64 (v.pb j), .int .i64 (v.pr j), .int .i64 (v.pg j), .int .i64 (v.ps j), .int .u64 (v.pm j)]), HO.gone, HO.res (opS (nds (ndf v.pt v.pk v.pa v.pb v.pr v.pg v.ps v.pm (fun _ => 0)) v.L)).1.M, HO.gone, HO.cells 175 [.ptr 2 0, .int .u64 (opS (nds (ndf v.pt v.pk v.pa v.pb v.pr v.pg v.ps v.pm (fun _ => 0)) v.L)).1.f, .int .i64 (opS (nds (ndf v.pt v.pk v.pa v.pb v.pr v.pg v.ps v.pm (fun _ => 0)) v.L)).1.c], rowN ((opS (nds (ndf v.pt v.pk v.pa v.pb v.pr v.pg v.ps v.pm (fun _ => 0)) v.L)).2)] := by
  obtain ⟨⟨h1, h2⟩, h3⟩ := h
  obtain ⟨k1, k2, k3⟩ := l36r (p := P36r_0.mk v.L (v.L : Int) v.Q v.pt v.pk v.pa v.pb v.pr v.pg v.ps v.pm 0 65536) (s := S36r_0.mk 0 (newM 65536) 0 0 0 0 _ _ _ _ _ _ _ _ _) h1 h2 rfl rfl ⟨rfl, rfl, rfl, rfl, rfl, rfl⟩ h3
  have k3 : ((⟨(f36r_16 v).R2, (f36r_16 v).xh4_1, (f36r_16 v).xh4_2⟩ : TS), nds (ndf (f36r_16 v).F5_0 (f36r_16 v).F5_1 (f36r_16 v).F5_2 (f36r_16 v).F5_3 (f36r_16 v).F5_4 (f36r_16 v).F5_5 (f36r_16 v).F5_6 (f36r_16 v).F5_7 (f36r_16 v).F5_8) (f36r_16 v).n6_1) = opS (nds (ndf v.pt v.pk v.pa v.pb v.pr v.pg v.ps v.pm (fun _ => 0)) v.L) := k3
  have k2 : (f36r_16 v).N5 = (f36r_16 v).n6_1 := k2
  have e1 := congrArg (fun z => z.1.M) k3
  have e2 := congrArg (fun z => z.1.f) k3
  have e3 := congrArg (fun z => z.1.c) k3
  have e4 := congrArg (fun z => z.2) k3
  have e5 := congrArg List.length e4
  simp only [nds_len] at e1 e2 e3 e4 e5
  refine ⟨⟨fun _ => k1, (fun e => by cases e), fun _ => trivial⟩, ?_, ?_⟩
  · simp only [f36r, Tr.get, f36r_2, e5]
  · simp only [f36r, Tr.get, f36r_2, f36r_3, f36r_4, f36r_5, f36r_6, f36r_7, f36r_8, f36r_9, f36r_10, f36r_11, f36r_12, f36r_13, f36r_14, f36r_15]
    rw [e1, e2, e3]
    refine .cons (.inl rfl) (.cons (.inr (.inl rfl)) (.cons (.inl rfl) (.cons (.inr (.inl rfl)) (.cons (.inl rfl) (.cons ?_ .nil)))))
    rw [← e4]
    exact rowA k2
noncomputable def f36rn (v : V36r) : Tr (Fin th.R) := .need (pre36r v) (.leaf (.tup [.ptr 4 0, .agg [.int .u64 65536, .slc 5 9 0 (opS (nds (ndf v.pt v.pk v.pa v.pb v.pr v.pg v.ps v.pm (fun _ => 0)) v.L)).2.length]], [.row 117 8 v.Q (fun j => [.int .u64 (v.pt j), .int .i64 (v.pk j), .int .u64 (v.pa j), .int .i64 (v.pb j), .int .i64 (v.pr j), .int .i64 (v.pg j), .int .i64 (v.ps j), .int .u64 (v.pm j)]), .gone, .res (opS (nds (ndf v.pt v.pk v.pa v.pb v.pr v.pg v.ps v.pm (fun _ => 0)) v.L)).1.M, .gone, .cells 175 [.ptr 2 0, .int .u64 (opS (nds (ndf v.pt v.pk v.pa v.pb v.pr v.pg v.ps v.pm (fun _ => 0)) v.L)).1.f, .int .i64 (opS (nds (ndf v.pt v.pk v.pa v.pb v.pr v.pg v.ps v.pm (fun _ => 0)) v.L)).1.c], rowN ((opS (nds (ndf v.pt v.pk v.pa v.pb v.pr v.pg v.ps v.pm (fun _ => 0)) v.L)).2)], []))
theorem s36rn : Sound Try.prog th 36 (fnC d36r ofV36r f36rn) := fnC_refine s36r fun v h => by
  obtain ⟨hp, _⟩ := h
  obtain ⟨a, b, c⟩ := n36r v hp
  exact ⟨a, b.symm, (qdd36r v).symm, c, by show 1 ≤ 6; decide⟩
noncomputable def D36r : CF th.R := fnC d36r ofV36r f36rn
noncomputable def nice36rn : List (Nat × CF th.R) := (36, lift (orC D36 D36r)) :: nice36n
theorem nok36rn : NiceOk Try.prog th nice36rn := ⟨lift_sound (orC_sound s36n s36rn), nok36n⟩
end Go.Sx.M

namespace Go.Sx.M
open Go Go.Sx Go.Proofs Go.RowKit
set_option maxRecDepth 100000
structure V170 where
  na : Int
  nb : Int
  ng : Int
  nm : Int
  w : Int
  l : Int
  c : Int
  f : Int
  cc : Int
  M : th.R
def A170 (v : V170) : List SV := [.ptr 0 0, .agg [.int .u64 v.na, .int .i64 v.nb, .int .i64 v.ng, .int .u64 v.nm]]
def H170 (v : V170) : List (HO th.R) := [.cells 163 [.ptr 1 0, .int .u64 v.w, .int .i64 v.l, .int .i64 v.c], .cells 175 [.ptr 2 0, .int .u64 v.f, .int .i64 v.cc], .res v.M]
def toV170 (v : V170) : List (Vl th.R) := [.i v.na, .i v.nb, .i v.ng, .i v.nm, .i v.w, .i v.l, .i v.c, .i v.f, .i v.cc, .r v.M]
def ofV170 : List (Vl th.R) → Option V170
  | [.i na, .i nb, .i ng, .i nm, .i w, .i l, .i c, .i f, .i cc, .r M] => some ⟨na, nb, ng, nm, w, l, c, f, cc, M⟩
  | _ => none
def d170 : Ft := ⟨[.ptr 0 0, .agg [.int .u64, .int .i64, .int .i64, .int .u64]], [.cells 163 [.ptr 1 0, .int .u64, .int .i64, .int .i64], .cells 175 [.ptr 2 0, .int .u64, .int .i64], .res]⟩
noncomputable def f170_5 (v : V170) : (Int) := IntKind.i64.wrap (v.ng + v.nb)
noncomputable def f170_6 (v : V170) : (Bool) := decide (f170_5 v > v.l)
noncomputable def f170_7 (v : V170) : (Int) := IntKind.i64.wrap (v.l - v.ng)
noncomputable def f170_8 (v : V170) : (Bool) := cnd (f170_6 v) true (cnd (v.ng == (0 : Int)) (0 : Int) (f102_1 (f170_7 v) v.ng v.w) != v.nm)
noncomputable def f170_9 (v : V170) : (Int) := cnd (cnd (!f170_6 v) true false) (cnd (v.ng == (0 : Int)) (f170_7 v) (f170_7 v)) v.l
noncomputable def f170_10 (v : V170) : (Int) := IntKind.i64.wrap (f170_9 v - v.nb)
noncomputable def f170_11 (v : V170) : (Int) := cnd (cnd (!f170_6 v) true false) (cnd (v.ng == (0 : Int)) v.w v.w) v.w
noncomputable def f170_12 (v : V170) : (Int) := IntKind.i64.wrap (v.c + (1 : Int))
noncomputable def f170_13 (v : V170) : (Int) := cnd (cnd (!f170_6 v) true false) (cnd (v.ng == (0 : Int)) (f170_12 v) (f170_12 v)) (f170_12 v)
noncomputable def f170_0 (v : V170) : (Int) := cnd (f170_8 v) (0 : Int) (IntKind.u64.wrap (v.na + IntKind.u64.wrap (cnd (v.nb == (0 : Int)) (0 : Int) (f102_1 (f170_10 v) v.nb (f170_11 v)) * (32 : Int))))
noncomputable def f170_1 (v : V170) : (Bool) := cnd (f170_8 v) false true
noncomputable def f170_2 (v : V170) : (Int) := cnd (f170_8 v) (f170_11 v) (cnd (v.nb == (0 : Int)) (f170_11 v) (f170_11 v))
noncomputable def f170_3 (v : V170) : (Int) := cnd (f170_8 v) (f170_9 v) (cnd (v.nb == (0 : Int)) (f170_10 v) (f170_10 v))
noncomputable def f170_4 (v : V170) : (Int) := cnd (f170_8 v) (f170_13 v) (cnd (v.nb == (0 : Int)) (f170_13 v) (f170_13 v))
noncomputable def ff170 (v : V170) : Tr (Fin th.R) := (Tr.leaf (SV.tup [SV.int .u64 (f170_0 v), SV.bool (f170_1 v)], [(HO.cells (163 : Nat) [(SV.ptr (1 : Nat) (0:Nat)), SV.int .u64 (f170_2 v), SV.int .i64 (f170_3 v), SV.int .i64 (f170_4 v)]), (HO.cells (175 : Nat) [(SV.ptr (2 : Nat) (0:Nat)), SV.int .u64 (v.f), SV.int .i64 (v.cc)]), HO.res (v.M)], [(0:Nat), (0:Nat), (0:Nat), (0:Nat), (0:Nat), (0:Nat), (0:Nat), (0:Nat)]))
noncomputable def f170 (v : V170) : Tr (Fin th.R) := (Tr.leaf (SV.tup [SV.int .u64 (f170_0 v), SV.bool (f170_1 v)], [(HO.cells (163 : Nat) [(SV.ptr (1 : Nat) (0:Nat)), SV.int .u64 (f170_2 v), SV.int .i64 (f170_3 v), SV.int .i64 (f170_4 v)]), (HO.cells (175 : Nat) [(SV.ptr (2 : Nat) (0:Nat)), SV.int .u64 (v.f), SV.int .i64 (v.cc)]), HO.res (v.M)], [0]))
noncomputable def C170 : CF th.R := fnC d170 ofV170 (f170 )
theorem q170 (v : V170) : (evFn th Try.prog (auto th Try.prog nice36rn [] 20) (autoH [] [] [] [] : Hints th) 170) (A170 v) (H170 v) = some (ff170 v) := by kernel_rfl
theorem qg170 (v : V170) : ((ff170 v).map (setD [0])).get = (f170 v).get := by kernel_rfl
theorem qd170 (v : V170) : allD 3 [0] (ff170 v) = true := by kernel_rfl
theorem s170 : Sound Try.prog th 170 (C170 ) := fnC_sound (evFn_sound' (T := th) (P := Try.prog) (tbl := (auto th Try.prog nice36rn [] 20)) (auto_sound (nice := nice36rn) (us := []) nok36rn 20) (H := (autoH [] [] [] [] : Hints th)) (k := 170) (fnLoops (LoopsOk_mem (fun _ => rfl) _ fun _ _ _ e => by cases e))) d170 A170 H170 toV170 (by kernel_rfl) (fun v => by kernel_rfl)
  (fun l v h => by
    unfold ofV170 at h
    split at h
    · cases h; rfl
    · cases h)
  [0] (fun v => ⟨ff170 v, q170 v, id, qg170 v, qd170 v⟩)
theorem qdd170 (v : V170) : (f170 v).get.2.2 = [0] := by
  rw [← qg170, Tr.map_get]; rfl
end Go.Sx.M

namespace Go.Sx.M
open Go Go.Sx Go.Proofs Go.RowKit
set_option maxRecDepth 100000
structure V124 where
  k : Int
  a : Int
  b : Int
  r : Int
  g : Int
  s : Int
  m : Int
def A124 (v : V124) : List SV := [.agg [.int .i64 v.k, .int .u64 v.a, .int .i64 v.b, .int .i64 v.r, .int .i64 v.g, .int .i64 v.s, .int .u64 v.m]]
def H124 (v : V124) : List (HO th.R) := []
def toV124 (v : V124) : List (Vl th.R) := [.i v.k, .i v.a, .i v.b, .i v.r, .i v.g, .i v.s, .i v.m]
def ofV124 : List (Vl th.R) → Option V124
  | [.i k, .i a, .i b, .i r, .i g, .i s, .i m] => some ⟨k, a, b, r, g, s, m⟩
  | _ => none
def d124 : Ft := ⟨[.agg [.int .i64, .int .u64, .int .i64, .int .i64, .int .i64, .int .i64, .int .u64]], []⟩
noncomputable def f124_5 (v : V124) : (Int) := f162_0 v.k v.a v.b v.r v.g v.s v.m
noncomputable def f124_6 (v : V124) : (Bool) := cnd (!f45_1 v.k v.a v.b v.r v.g v.s v.m) true (decide (f124_5 v < (0 : Int)))
noncomputable def f124_7 (v : V124) : (Bool) := cnd (v.k == (4 : Int)) (v.s != (0 : Int)) false
noncomputable def f124_8 (v : V124) : (Int) := cnd (v.k == (3 : Int)) (0 : Int) (cnd (f124_7 v) (0 : Int) (0 : Int))
noncomputable def f124_9 (v : V124) : (Int) := cnd (v.k == (10 : Int)) (0 : Int) (f124_8 v)
noncomputable def f124_0 (v : V124) : (Int) := cnd (v.k != (2 : Int)) (0 : Int) (cnd (f124_6 v) (0 : Int) (cnd (v.k == (1 : Int)) (0 : Int) (cnd (v.k == (2 : Int)) v.a (cnd (v.k == (10 : Int)) v.a (f124_8 v)))))
noncomputable def f124_1 (v : V124) : (Int) := cnd (v.k != (2 : Int)) (0 : Int) (cnd (f124_6 v) (0 : Int) (cnd (v.k == (1 : Int)) (0 : Int) (cnd (v.k == (2 : Int)) v.b (cnd (v.k == (10 : Int)) v.b (f124_8 v)))))
noncomputable def f124_2 (v : V124) : (Int) := cnd (v.k != (2 : Int)) (0 : Int) (cnd (f124_6 v) (0 : Int) (cnd (v.k == (1 : Int)) (0 : Int) (cnd (v.k == (2 : Int)) v.g (f124_9 v))))
noncomputable def f124_3 (v : V124) : (Int) := cnd (v.k != (2 : Int)) (0 : Int) (cnd (f124_6 v) (0 : Int) (cnd (v.k == (1 : Int)) (0 : Int) (cnd (v.k == (2 : Int)) v.m (f124_9 v))))
noncomputable def f124_4 (v : V124) : (Bool) := cnd (v.k != (2 : Int)) false (cnd (f124_6 v) false (cnd (v.k == (1 : Int)) false (cnd (v.k == (2 : Int)) true (cnd (v.k == (10 : Int)) true (cnd (v.k == (3 : Int)) false (cnd (f124_7 v) false false))))))
noncomputable def ff124 (v : V124) : Tr (Fin th.R) := (Tr.leaf (SV.tup [SV.agg [SV.int .u64 (f124_0 v), SV.int .i64 (f124_1 v), SV.int .i64 (f124_2 v), SV.int .u64 (f124_3 v)], SV.bool (f124_4 v)], List.nil, List.nil))
noncomputable def f124 (v : V124) : Tr (Fin th.R) := (Tr.leaf (SV.tup [SV.agg [SV.int .u64 (f124_0 v), SV.int .i64 (f124_1 v), SV.int .i64 (f124_2 v), SV.int .u64 (f124_3 v)], SV.bool (f124_4 v)], List.nil, []))
noncomputable def C124 : CF th.R := fnC d124 ofV124 (f124 )
theorem q124 (v : V124) : (evFn th Try.prog (auto th Try.prog nice42n [] 20) (autoH [] [] [] [] : Hints th) 124) (A124 v) (H124 v) = some (ff124 v) := by kernel_rfl
theorem qg124 (v : V124) : ((ff124 v).map (setD [])).get = (f124 v).get := by kernel_rfl
theorem qd124 (v : V124) : allD 0 [] (ff124 v) = true := by kernel_rfl
theorem s124 : Sound Try.prog th 124 (C124 ) := fnC_sound (evFn_sound' (T := th) (P := Try.prog) (tbl := (auto th Try.prog nice42n [] 20)) (auto_sound (nice := nice42n) (us := []) nok42n 20) (H := (autoH [] [] [] [] : Hints th)) (k := 124) (fnLoops (LoopsOk_mem (fun _ => rfl) _ fun _ _ _ e => by cases e))) d124 A124 H124 toV124 (by kernel_rfl) (fun v => by kernel_rfl)
  (fun l v h => by
    unfold ofV124 at h
    split at h
    · cases h; rfl
    · cases h)
  [] (fun v => ⟨ff124 v, q124 v, id, qg124 v, qd124 v⟩)
theorem qdd124 (v : V124) : (f124 v).get.2.2 = [] := by
  rw [← qg124, Tr.map_get]; rfl
end Go.Sx.M

namespace Go.Sx.M
open Go Go.Sx Go.Proofs Go.RowKit
/-- One step of a walk: a number's next bits, at a node. -/
noncomputable def pT (w l n : Int) : Int := cnd (n == 0) 0 (f102_1 l n w)
def pG (l b g : Int) : Bool := decide (IntKind.i64.wrap (g + b) > l)
noncomputable def pF (w l b g m : Int) : Bool := cnd (pG l b g) true (pT w (IntKind.i64.wrap (l - g)) g != m)
def pL1 (l b g : Int) : Int := cnd (pG l b g) l (IntKind.i64.wrap (l - g))
noncomputable def pL (w l b g m : Int) : Int := cnd (pF w l b g m) (pL1 l b g) (IntKind.i64.wrap (pL1 l b g - b))
noncomputable def pS (w l a b g m : Int) : Int := cnd (pF w l b g m) 0 (IntKind.u64.wrap (a + IntKind.u64.wrap (pT w (IntKind.i64.wrap (pL1 l b g - b)) b * 32)))
/-- A capability as a node. -/
noncomputable def pOk (z : Sl) : Bool := f124_4 ⟨z.k, z.a, z.b, z.r, z.g, z.s, z.m⟩
noncomputable def pNa (z : Sl) : Int := f124_0 ⟨z.k, z.a, z.b, z.r, z.g, z.s, z.m⟩
noncomputable def pNb (z : Sl) : Int := f124_1 ⟨z.k, z.a, z.b, z.r, z.g, z.s, z.m⟩
noncomputable def pNg (z : Sl) : Int := f124_2 ⟨z.k, z.a, z.b, z.r, z.g, z.s, z.m⟩
noncomputable def pNm (z : Sl) : Int := f124_3 ⟨z.k, z.a, z.b, z.r, z.g, z.s, z.m⟩
end Go.Sx.M

namespace Go.Sx.M
open Go Go.Sx Go.Proofs Go.RowKit
set_option maxRecDepth 100000
def pre124 (v : V124) : Prop := True
theorem n124 (v : V124) (h : pre124 v) : (f124 v).ok ∧ (f124 v).get.1 = .tup [.agg [.int .u64 (pNa (Sl.mk v.k v.a v.b v.r v.g v.s v.m 0 0 0)), .int .i64 (pNb (Sl.mk v.k v.a v.b v.r v.g v.s v.m 0 0 0)), .int .i64 (pNg (Sl.mk v.k v.a v.b v.r v.g v.s v.m 0 0 0)), .int .u64 (pNm (Sl.mk v.k v.a v.b v.r v.g v.s v.m 0 0 0))], .bool (pOk (Sl.mk v.k v.a v.b v.r v.g v.s v.m 0 0 0))] ∧ HOws (f124 v).get.2.1 [] := by
  exact ⟨trivial, rfl, .refl _⟩
noncomputable def f124n (v : V124) : Tr (Fin th.R) := .need (pre124 v) (.leaf (.tup [.agg [.int .u64 (pNa (Sl.mk v.k v.a v.b v.r v.g v.s v.m 0 0 0)), .int .i64 (pNb (Sl.mk v.k v.a v.b v.r v.g v.s v.m 0 0 0)), .int .i64 (pNg (Sl.mk v.k v.a v.b v.r v.g v.s v.m 0 0 0)), .int .u64 (pNm (Sl.mk v.k v.a v.b v.r v.g v.s v.m 0 0 0))], .bool (pOk (Sl.mk v.k v.a v.b v.r v.g v.s v.m 0 0 0))], [], []))
theorem s124n : Sound Try.prog th 124 (fnC d124 ofV124 f124n) := fnC_refine s124 fun v h => by
  obtain ⟨hp, _⟩ := h
  obtain ⟨a, b, c⟩ := n124 v hp
  exact ⟨a, b.symm, (qdd124 v).symm, c, by show 0 ≤ 0; decide⟩
noncomputable def nice124n : List (Nat × CF th.R) := (124, lift (fnC d124 ofV124 f124n)) :: nice36rn
theorem nok124n : NiceOk Try.prog th nice124n := ⟨lift_sound s124n, nok36rn⟩
end Go.Sx.M

namespace Go.Sx.M
open Go Go.Sx Go.Proofs Go.RowKit
set_option maxRecDepth 100000
def pre170 (v : V170) : Prop := True
theorem n170 (v : V170) (h : pre170 v) : (f170 v).ok ∧ (f170 v).get.1 = .tup [.int .u64 (pS v.w v.l v.na v.nb v.ng v.nm), .bool (!pF v.w v.l v.nb v.ng v.nm)] ∧ HOws (f170 v).get.2.1 [HO.cells 163 [.ptr 1 0, .int .u64 v.w, .int .i64 (pL v.w v.l v.nb v.ng v.nm), .int .i64 (IntKind.i64.wrap (v.c + 1))], HO.cells 175 [.ptr 2 0, .int .u64 v.f, .int .i64 v.cc], HO.res v.M] := by
  have e6 : f170_6 v = pG v.l v.nb v.ng := rfl
  refine ⟨trivial, ?_, ?_⟩
  · simp only [f170, Tr.get, f170_0, f170_1, f170_5, e6, f170_7, f170_8, f170_9, f170_10, f170_11, cnd_same, pS, pF, pT, pL1, cnd_neg]
    cases pG v.l v.nb v.ng <;> rfl
  · simp only [f170, Tr.get, f170_2, f170_3, f170_4, f170_5, e6, f170_7, f170_8, f170_9, f170_10, f170_11, f170_12, f170_13, cnd_same, pL, pF, pT, pL1]
    cases pG v.l v.nb v.ng <;> exact .refl _
noncomputable def f170n (v : V170) : Tr (Fin th.R) := .need (pre170 v) (.leaf (.tup [.int .u64 (pS v.w v.l v.na v.nb v.ng v.nm), .bool (!pF v.w v.l v.nb v.ng v.nm)], [.cells 163 [.ptr 1 0, .int .u64 v.w, .int .i64 (pL v.w v.l v.nb v.ng v.nm), .int .i64 (IntKind.i64.wrap (v.c + 1))], .cells 175 [.ptr 2 0, .int .u64 v.f, .int .i64 v.cc], .res v.M], [0]))
theorem s170n : Sound Try.prog th 170 (fnC d170 ofV170 f170n) := fnC_refine s170 fun v h => by
  obtain ⟨hp, _⟩ := h
  obtain ⟨a, b, c⟩ := n170 v hp
  exact ⟨a, b.symm, (qdd170 v).symm, c, by show 3 ≤ 3; decide⟩
noncomputable def nice170n : List (Nat × CF th.R) := (170, lift (fnC d170 ofV170 f170n)) :: nice124n
theorem nok170n : NiceOk Try.prog th nice170n := ⟨lift_sound s170n, nok124n⟩
end Go.Sx.M

namespace Go.Sx.M
open Go Go.Sx Go.Proofs Go.RowKit
set_option maxRecDepth 100000
structure V112 where
  na : Int
  nb : Int
  ng : Int
  nm : Int
  w : Int
  l : Int
  c : Int
  f : Int
  cc : Int
  M : th.R
def A112 (v : V112) : List SV := [.ptr 0 0, .agg [.int .u64 v.na, .int .i64 v.nb, .int .i64 v.ng, .int .u64 v.nm]]
def H112 (v : V112) : List (HO th.R) := [.cells 163 [.ptr 1 0, .int .u64 v.w, .int .i64 v.l, .int .i64 v.c], .cells 175 [.ptr 2 0, .int .u64 v.f, .int .i64 v.cc], .res v.M]
def toV112 (v : V112) : List (Vl th.R) := [.i v.na, .i v.nb, .i v.ng, .i v.nm, .i v.w, .i v.l, .i v.c, .i v.f, .i v.cc, .r v.M]
def ofV112 : List (Vl th.R) → Option V112
  | [.i na, .i nb, .i ng, .i nm, .i w, .i l, .i c, .i f, .i cc, .r M] => some ⟨na, nb, ng, nm, w, l, c, f, cc, M⟩
  | _ => none
def d112 : Ft := ⟨[.ptr 0 0, .agg [.int .u64, .int .i64, .int .i64, .int .u64]], [.cells 163 [.ptr 1 0, .int .u64, .int .i64, .int .i64], .cells 175 [.ptr 2 0, .int .u64, .int .i64], .res]⟩
structure P112_0 where
  x4 : Int
  b5 : Bool
  xh0_1 : Int
  xh1_1 : Int
  xh1_2 : Int
  R2 : th.R
structure S112_0 where
  xh0_2 : Int
  xh0_3 : Int
  xh3_0 : Int
  xh3_1 : Int
  xh3_2 : Int
  xh3_3 : Int
noncomputable instance : Inhabited S112_0 := ⟨⟨0, 0, 0, 0, 0, 0⟩⟩
def I112_0 (p : P112_0) (s : S112_0) : St th.R := ⟨[some (.ptr 0 0), none, none, some (.ptr 3 0), some (.int .u64 p.x4), some (.bool p.b5), none, none, none, none, none, none, none, none, none, none, none, none, none, none, none, none, none, none, none, none, none, none, none, none, none, none, none, none, none, none, none, none, none, none, none, none, none, none], [.cells 163 [.ptr 1 0, .int .u64 p.xh0_1, .int .i64 s.xh0_2, .int .i64 s.xh0_3], .cells 175 [.ptr 2 0, .int .u64 p.xh1_1, .int .i64 p.xh1_2], .res p.R2, .cells 158 [.int .u64 s.xh3_0, .int .i64 s.xh3_1, .int .i64 s.xh3_2, .int .u64 s.xh3_3]], [], []⟩
def d112_0 : Lp := ⟨⟨44, [(0, .ptr 0 0), (3, .ptr 3 0), (4, .int .u64), (5, .bool)], [.cells 163 [.ptr 1 0, .int .u64, .int .i64, .int .i64], .cells 175 [.ptr 2 0, .int .u64, .int .i64], .res, .cells 158 [.int .u64, .int .i64, .int .i64, .int .u64]]⟩, [], 4, [0, 3], [4, 5], []⟩
def toV112_0 (p : P112_0) (s : S112_0) : List (Vl th.R) := [.i p.x4, .b p.b5, .i p.xh0_1, .i s.xh0_2, .i s.xh0_3, .i p.xh1_1, .i p.xh1_2, .r p.R2, .i s.xh3_0, .i s.xh3_1, .i s.xh3_2, .i s.xh3_3]
def ofV112_0 : List (Vl th.R) → Option (P112_0 × S112_0)
  | [.i x4, .b b5, .i xh0_1, .i xh0_2, .i xh0_3, .i xh1_1, .i xh1_2, .r R2, .i xh3_0, .i xh3_1, .i xh3_2, .i xh3_3] => some (⟨x4, b5, xh0_1, xh1_1, xh1_2, R2⟩, ⟨xh0_2, xh0_3, xh3_0, xh3_1, xh3_2, xh3_3⟩)
  | _ => none
noncomputable def e112_0_13 (p : P112_0) (s : S112_0) : (Int) := pS p.xh0_1 s.xh0_2 s.xh3_0 s.xh3_1 s.xh3_2 s.xh3_3
noncomputable def e112_0_14 (p : P112_0) (s : S112_0) : (Sl) := ld p.R2 (e112_0_13 p s)
noncomputable def e112_0_15 (p : P112_0) (s : S112_0) : (Int) := (e112_0_14 p s).k
noncomputable def e112_0_16 (p : P112_0) (s : S112_0) : (Int) := (e112_0_14 p s).a
noncomputable def e112_0_17 (p : P112_0) (s : S112_0) : (Int) := (e112_0_14 p s).b
noncomputable def e112_0_18 (p : P112_0) (s : S112_0) : (Int) := (e112_0_14 p s).r
noncomputable def e112_0_19 (p : P112_0) (s : S112_0) : (Int) := (e112_0_14 p s).g
noncomputable def e112_0_20 (p : P112_0) (s : S112_0) : (Int) := (e112_0_14 p s).s
noncomputable def e112_0_21 (p : P112_0) (s : S112_0) : (Int) := (e112_0_14 p s).m
noncomputable def e112_0_22 (p : P112_0) (s : S112_0) : (Sl) := Sl.mk (e112_0_15 p s) (e112_0_16 p s) (e112_0_17 p s) (e112_0_18 p s) (e112_0_19 p s) (e112_0_20 p s) (e112_0_21 p s) (0 : Int) (0 : Int) (0 : Int)
noncomputable def e112_0_0 (p : P112_0) (s : S112_0) : (Prop) := pre170 (V170.mk s.xh3_0 s.xh3_1 s.xh3_2 s.xh3_3 p.xh0_1 s.xh0_2 s.xh0_3 p.xh1_1 p.xh1_2 p.R2)
noncomputable def e112_0_1 (p : P112_0) (s : S112_0) : (Bool) := cnd (!!pF p.xh0_1 s.xh0_2 s.xh3_1 s.xh3_2 s.xh3_3) true (pL p.xh0_1 s.xh0_2 s.xh3_1 s.xh3_2 s.xh3_3 == (0 : Int))
noncomputable def e112_0_2 (p : P112_0) (s : S112_0) : (Int) := e112_0_13 p s
noncomputable def e112_0_3 (p : P112_0) (s : S112_0) : (Bool) := !pF p.xh0_1 s.xh0_2 s.xh3_1 s.xh3_2 s.xh3_3
noncomputable def e112_0_4 (p : P112_0) (s : S112_0) : (Int) := pL p.xh0_1 s.xh0_2 s.xh3_1 s.xh3_2 s.xh3_3
noncomputable def e112_0_5 (p : P112_0) (s : S112_0) : (Int) := IntKind.i64.wrap (s.xh0_3 + (1 : Int))
noncomputable def e112_0_6 (p : P112_0) (s : S112_0) : (Prop) := pre67 (V67.mk (e112_0_13 p s) p.xh1_1 p.xh1_2 p.R2)
noncomputable def e112_0_7 (p : P112_0) (s : S112_0) : (Prop) := pre124 (V124.mk (e112_0_15 p s) (e112_0_16 p s) (e112_0_17 p s) (e112_0_18 p s) (e112_0_19 p s) (e112_0_20 p s) (e112_0_21 p s))
noncomputable def e112_0_8 (p : P112_0) (s : S112_0) : (Bool) := !pOk (e112_0_22 p s)
noncomputable def e112_0_9 (p : P112_0) (s : S112_0) : (Int) := pNa (e112_0_22 p s)
noncomputable def e112_0_10 (p : P112_0) (s : S112_0) : (Int) := pNb (e112_0_22 p s)
noncomputable def e112_0_11 (p : P112_0) (s : S112_0) : (Int) := pNg (e112_0_22 p s)
noncomputable def e112_0_12 (p : P112_0) (s : S112_0) : (Int) := pNm (e112_0_22 p s)
noncomputable def rf112_0 (p : P112_0) (s : S112_0) : Tr (Rs th.R S112_0) := (Tr.need (e112_0_0 p s) (Tr.ite (e112_0_1 p s) (Tr.leaf (Rs.out (Ex.ret) [none, none, none, none, some (SV.int .u64 (e112_0_2 p s)), some (SV.bool (e112_0_3 p s)), none, none, none, none, none, none, none, none, none, none, none, none, none, none, none, none, none, none, none, none, none, none, none, none, none, none, none, none, none, none, none, none, none, none, none, none, none, none] [(HO.cells (163 : Nat) [(SV.ptr (1 : Nat) (0:Nat)), SV.int .u64 (p.xh0_1), SV.int .i64 (e112_0_4 p s), SV.int .i64 (e112_0_5 p s)]), (HO.cells (175 : Nat) [(SV.ptr (2 : Nat) (0:Nat)), SV.int .u64 (p.xh1_1), SV.int .i64 (p.xh1_2)]), HO.res (p.R2), (HO.cells (158 : Nat) [SV.int .u64 (s.xh3_0), SV.int .i64 (s.xh3_1), SV.int .i64 (s.xh3_2), SV.int .u64 (s.xh3_3)])])) (Tr.need (e112_0_6 p s) (Tr.need (e112_0_7 p s) (Tr.ite (e112_0_8 p s) (Tr.leaf (Rs.out (Ex.ret) [none, none, none, none, some (SV.int .u64 (e112_0_2 p s)), some (SV.bool (true)), none, none, none, none, none, none, none, none, none, none, none, none, none, none, none, none, none, none, none, none, none, none, none, none, none, none, none, none, none, none, none, none, none, none, none, none, none, none] [(HO.cells (163 : Nat) [(SV.ptr (1 : Nat) (0:Nat)), SV.int .u64 (p.xh0_1), SV.int .i64 (e112_0_4 p s), SV.int .i64 (e112_0_5 p s)]), (HO.cells (175 : Nat) [(SV.ptr (2 : Nat) (0:Nat)), SV.int .u64 (p.xh1_1), SV.int .i64 (p.xh1_2)]), HO.res (p.R2), (HO.cells (158 : Nat) [SV.int .u64 (e112_0_9 p s), SV.int .i64 (e112_0_10 p s), SV.int .i64 (e112_0_11 p s), SV.int .u64 (e112_0_12 p s)])])) (Tr.leaf (Rs.on (S112_0.mk ((e112_0_4 p s)) ((e112_0_5 p s)) ((e112_0_9 p s)) ((e112_0_10 p s)) ((e112_0_11 p s)) ((e112_0_12 p s))))))))))
noncomputable def r112_0 (p : P112_0) (s : S112_0) : Tr (Rs th.R S112_0) := (Tr.need (e112_0_0 p s) (Tr.ite (e112_0_1 p s) (Tr.leaf (Rs.out (Ex.ret) [none, none, none, none, some (SV.int .u64 (e112_0_2 p s)), some (SV.bool (e112_0_3 p s)), none, none, none, none, none, none, none, none, none, none, none, none, none, none, none, none, none, none, none, none, none, none, none, none, none, none, none, none, none, none, none, none, none, none, none, none, none, none] [(HO.cells (163 : Nat) [(SV.ptr (1 : Nat) (0:Nat)), SV.int .u64 (p.xh0_1), SV.int .i64 (e112_0_4 p s), SV.int .i64 (e112_0_5 p s)]), (HO.cells (175 : Nat) [(SV.ptr (2 : Nat) (0:Nat)), SV.int .u64 (p.xh1_1), SV.int .i64 (p.xh1_2)]), HO.res (p.R2), (HO.cells (158 : Nat) [SV.int .u64 (s.xh3_0), SV.int .i64 (s.xh3_1), SV.int .i64 (s.xh3_2), SV.int .u64 (s.xh3_3)])])) (Tr.need (e112_0_6 p s) (Tr.need (e112_0_7 p s) (Tr.ite (e112_0_8 p s) (Tr.leaf (Rs.out (Ex.ret) [none, none, none, none, some (SV.int .u64 (e112_0_2 p s)), some (SV.bool (true)), none, none, none, none, none, none, none, none, none, none, none, none, none, none, none, none, none, none, none, none, none, none, none, none, none, none, none, none, none, none, none, none, none, none, none, none, none, none] [(HO.cells (163 : Nat) [(SV.ptr (1 : Nat) (0:Nat)), SV.int .u64 (p.xh0_1), SV.int .i64 (e112_0_4 p s), SV.int .i64 (e112_0_5 p s)]), (HO.cells (175 : Nat) [(SV.ptr (2 : Nat) (0:Nat)), SV.int .u64 (p.xh1_1), SV.int .i64 (p.xh1_2)]), HO.res (p.R2), (HO.cells (158 : Nat) [SV.int .u64 (e112_0_9 p s), SV.int .i64 (e112_0_10 p s), SV.int .i64 (e112_0_11 p s), SV.int .u64 (e112_0_12 p s)])])) (Tr.leaf (Rs.on (S112_0.mk ((e112_0_4 p s)) ((e112_0_5 p s)) ((e112_0_9 p s)) ((e112_0_10 p s)) ((e112_0_11 p s)) ((e112_0_12 p s))))))))))
noncomputable def E112_0 : St th.R → Out th := evCode th Try.prog (auto th Try.prog nice170n [] 20) (autoH [] [] [] [] : Hints th) (lpAt Try.prog 112 0)
theorem B112_0 : CodeSound th Try.prog (lpAt Try.prog 112 0) E112_0 := evCode_sound (T := th) (P := Try.prog) (tbl := (auto th Try.prog nice170n [] 20)) (auto_sound (nice := nice170n) (us := []) nok170n 20) (autoH [] [] [] [] : Hints th) _ (LoopsOk_mem (fun _ => rfl) _ fun b hb L hL => by cases hL)
noncomputable def L112_0 : St th.R → Out th := loopL d112_0 ofV112_0 r112_0
theorem h1_112_0 (p : P112_0) (s : S112_0) : bld d112_0.tm (toV112_0 p s) = some (I112_0 p s) := by kernel_rfl
theorem h2_112_0 (l : List (Vl th.R)) (p : P112_0) (s : S112_0) (h : ofV112_0 l = some (p, s)) : l = toV112_0 p s := by
  unfold ofV112_0 at h
  split at h
  · cases h; rfl
  · cases h
theorem h3_112_0 (p : P112_0) (s : S112_0) : cvE d112_0 (E112_0 (I112_0 p s)) = some ((rf112_0 p s).map (Rs.map (toV112_0 p))) := by kernel_rfl
theorem h3g_112_0 (p : P112_0) (s : S112_0) : (rf112_0 p s).get = (r112_0 p s).get := by kernel_rfl
theorem h4_112_0 (p : P112_0) (s s1 : S112_0) : outH d112_0.dirt d112_0.n0 (r112_0 p s) = repH (maskH d112_0.dirt 0 d112_0.n0 (I112_0 p s1).heap) (r112_0 p s) := by kernel_rfl
theorem ls112_0 : CodeSound th Try.prog (.loop (lpAt Try.prog 112 0)) L112_0 := loopL_sound B112_0 d112_0 I112_0 toV112_0 (by kernel_rfl) h1_112_0 h2_112_0
  (fun p s => ⟨(rf112_0 p s).map (Rs.map (toV112_0 p)), h3_112_0 p s, fun h => (Tr.map_ok _ _).2 h, by rw [Tr.map_get, h3g_112_0 p s]⟩) h4_112_0
theorem ok112 : LoopsOk th Try.prog (autoH [(1, L112_0)] [] [] [] : Hints th) (bodyOf Try.prog 112) := autoH_ok (bs := [lpAt Try.prog 112 0]) (by kernel_rfl) fun b hb L hL => by
  simp only [List.mem_cons, List.not_mem_nil, or_false] at hb
  rcases hb with rfl
  · have e : lookL [(1, L112_0)] (firstReg (lpAt Try.prog 112 0)) = some L112_0 := by kernel_rfl
    rw [e] at hL; cases hL
    exact ls112_0
noncomputable def f112_6 (v : V112) : (P112_0) := P112_0.mk (0 : Int) false v.w v.f v.cc v.M
noncomputable def f112_7 (v : V112) : (S112_0) := S112_0.mk v.l v.c v.na v.nb v.ng v.nm
noncomputable def f112_8 (v : V112) : (S112_0) := lastS (r112_0 (f112_6 v)) (f112_7 v)
noncomputable def f112_9 (v : V112) : (Bool) := e112_0_1 (f112_6 v) (f112_8 v)
noncomputable def f112_10 (v : V112) : (Int) := e112_0_2 (f112_6 v) (f112_8 v)
noncomputable def f112_11 (v : V112) : (Int) := e112_0_4 (f112_6 v) (f112_8 v)
noncomputable def f112_12 (v : V112) : (Int) := e112_0_5 (f112_6 v) (f112_8 v)
noncomputable def f112_0 (v : V112) : (Prop) := LT (r112_0 (f112_6 v)) (f112_7 v)
noncomputable def f112_1 (v : V112) : (Int) := cnd (f112_9 v) (f112_10 v) (f112_10 v)
noncomputable def f112_2 (v : V112) : (Bool) := cnd (f112_9 v) (e112_0_3 (f112_6 v) (f112_8 v)) true
noncomputable def f112_3 (v : V112) : (Int) := cnd (f112_9 v) v.w v.w
noncomputable def f112_4 (v : V112) : (Int) := cnd (f112_9 v) (f112_11 v) (f112_11 v)
noncomputable def f112_5 (v : V112) : (Int) := cnd (f112_9 v) (f112_12 v) (f112_12 v)
noncomputable def ff112 (v : V112) : Tr (Fin th.R) := (Tr.need (f112_0 v) (Tr.leaf (SV.tup [SV.int .u64 (f112_1 v), SV.bool (f112_2 v)], [(HO.cells (163 : Nat) [(SV.ptr (1 : Nat) (0:Nat)), SV.int .u64 (f112_3 v), SV.int .i64 (f112_4 v), SV.int .i64 (f112_5 v)]), (HO.cells (175 : Nat) [(SV.ptr (2 : Nat) (0:Nat)), SV.int .u64 (v.f), SV.int .i64 (v.cc)]), HO.res (v.M)], [(0:Nat), (0:Nat)])))
noncomputable def f112 (v : V112) : Tr (Fin th.R) := (Tr.need (f112_0 v) (Tr.leaf (SV.tup [SV.int .u64 (f112_1 v), SV.bool (f112_2 v)], [(HO.cells (163 : Nat) [(SV.ptr (1 : Nat) (0:Nat)), SV.int .u64 (f112_3 v), SV.int .i64 (f112_4 v), SV.int .i64 (f112_5 v)]), (HO.cells (175 : Nat) [(SV.ptr (2 : Nat) (0:Nat)), SV.int .u64 (v.f), SV.int .i64 (v.cc)]), HO.res (v.M)], [0])))
noncomputable def C112 : CF th.R := fnC d112 ofV112 (f112 )
theorem q112 (v : V112) : (evFn th Try.prog (auto th Try.prog nice170n [] 20) (autoH [(1, L112_0)] [] [] [] : Hints th) 112) (A112 v) (H112 v) = some (ff112 v) := by kernel_rfl
theorem qg112 (v : V112) : ((ff112 v).map (setD [0])).get = (f112 v).get := by kernel_rfl
theorem qd112 (v : V112) : allD 3 [0] (ff112 v) = true := by kernel_rfl
theorem s112 : Sound Try.prog th 112 (C112 ) := fnC_sound (evFn_sound' (T := th) (P := Try.prog) (tbl := (auto th Try.prog nice170n [] 20)) (auto_sound (nice := nice170n) (us := []) nok170n 20) (H := (autoH [(1, L112_0)] [] [] [] : Hints th)) (k := 112) (fnLoops ok112)) d112 A112 H112 toV112 (by kernel_rfl) (fun v => by kernel_rfl)
  (fun l v h => by
    unfold ofV112 at h
    split at h
    · cases h; rfl
    · cases h)
  [0] (fun v => ⟨ff112 v, q112 v, id, qg112 v, qd112 v⟩)
theorem qdd112 (v : V112) : (f112 v).get.2.2 = [0] := by
  rw [← qg112, Tr.map_get]; rfl
end Go.Sx.M

namespace Go.Sx.M
open Go Go.Sx Go.Proofs Go.RowKit
theorem pOk_spec {z : Sl} (h : SlR z) (ho : pOk z = true) : z.k = 2 ∧ rgt z = true ∧ pNa z = z.a ∧ pNb z = z.b ∧ pNg z = z.g ∧ pNm z = z.m ∧ (1 ≤ z.b ∧ z.b ≤ 12) ∧ (0 ≤ z.g ∧ z.g ≤ 63) := by
  unfold pOk at ho
  simp only [f124_4, cnd_eq] at ho
  have k2 : z.k = 2 := by
    by_cases k : z.k = 2
    · exact k
    · simp [k] at ho
  have h6 : f124_6 ⟨z.k, z.a, z.b, z.r, z.g, z.s, z.m⟩ = false := by
    cases hh : f124_6 ⟨z.k, z.a, z.b, z.r, z.g, z.s, z.m⟩ with
    | false => rfl
    | true => simp [hh] at ho
  have hr : f45_1 z.k z.a z.b z.r z.g z.s z.m = true := by
    simp only [f124_6, cnd_eq] at h6
    cases hh : f45_1 z.k z.a z.b z.r z.g z.s z.m with
    | true => rfl
    | false => simp [hh] at h6
  obtain ⟨_, hb, _, hg, _, _, _⟩ := right_ranges h.a.1 h.a.2 (rgt2 h hr) hr
  obtain ⟨q1, q2, q3⟩ := right_size' hr
  have hsb := (slots_bits q1).1 (.inl k2)
  refine ⟨k2, hr, ?_, ?_, ?_, ?_, ⟨hsb.1, hsb.2.1⟩, hg⟩
  · unfold pNa; simp [f124_0, cnd_eq, k2]; rw [k2] at h6; simp [h6]
  · unfold pNb; simp [f124_1, cnd_eq, k2]; rw [k2] at h6; simp [h6]
  · unfold pNg; simp [f124_2, cnd_eq, k2]; rw [k2] at h6; simp [h6]
  · unfold pNm; simp [f124_3, cnd_eq, k2]; rw [k2] at h6; simp [h6]
structure Wr where
  s : Int
  ok : Bool
  l : Int
  c : Int
def capS (z : Sl) : Sl := ⟨z.k, z.a, z.b, z.r, z.g, z.s, z.m, 0, 0, 0⟩
theorem capS_R {z : Sl} (h : SlR z) : SlR (capS z) := ⟨h.k, h.a, h.b, h.r, h.g, h.s, h.m, u0, u0, i0⟩
/-- A walk, told by its rounds: what a slot holds is 'cf'. -/
noncomputable def wkM (cf : Int → Sl) (w : Int) : Nat → Int → Int → Int → Int → Int → Int → Wr
  | 0, _, _, _, _, _, _ => ⟨0, false, 0, 0⟩
  | n + 1, l, c, na, nb, ng, nm =>
    match cnd (!!pF w l nb ng nm) true (pL w l nb ng nm == 0) with
    | true => ⟨pS w l na nb ng nm, !pF w l nb ng nm, pL w l nb ng nm, IntKind.i64.wrap (c + 1)⟩
    | false => match !pOk (cf (pS w l na nb ng nm)) with
      | true => ⟨pS w l na nb ng nm, true, pL w l nb ng nm, IntKind.i64.wrap (c + 1)⟩
      | false => wkM cf w n (pL w l nb ng nm) (IntKind.i64.wrap (c + 1)) (pNa (cf (pS w l na nb ng nm))) (pNb (cf (pS w l na nb ng nm))) (pNg (cf (pS w l na nb ng nm))) (pNm (cf (pS w l na nb ng nm)))
/-- A node that may be walked. -/
def pnOk (l nb ng : Int) : Prop := (0 ≤ l ∧ l ≤ 64) ∧ (1 ≤ nb ∧ nb ≤ 12) ∧ (0 ≤ ng ∧ ng ≤ 63)
theorem pL_less {w l nb ng nm : Int} (h : pnOk l nb ng) (hf : pF w l nb ng nm = false) : pL w l nb ng nm = l - ng - nb ∧ 0 ≤ pL w l nb ng nm ∧ pL w l nb ng nm < l := by
  obtain ⟨⟨l0, l1⟩, ⟨b0, b1⟩, ⟨g0, g1⟩⟩ := h
  have hG : pG l nb ng = false := by
    cases hh : pG l nb ng with
    | false => rfl
    | true => simp [pF, hh, cnd_eq] at hf
  have hle : ng + nb ≤ l := by
    unfold pG at hG
    rw [wi (by omega) (by omega)] at hG
    have := of_decide_eq_false hG
    omega
  have e : pL w l nb ng nm = l - ng - nb := by
    unfold pL pL1
    rw [hf, hG]
    show IntKind.i64.wrap (IntKind.i64.wrap (l - ng) - nb) = _
    rw [wi (x := l - ng) (by omega) (by omega), wi (by omega) (by omega)]
  rw [e]
  exact ⟨rfl, by omega, by omega⟩
theorem pS_U (w l a b g m : Int) : U64 (pS w l a b g m) := cnd_ind u0 (wrapR _)
theorem wkM_fuel {cf : Int → Sl} {w : Int} (hc : ∀ a, SlR (cf a)) : ∀ {n m : Nat} {l c na nb ng nm : Int}, pnOk l nb ng → l.toNat < n → l.toNat < m → wkM cf w n l c na nb ng nm = wkM cf w m l c na nb ng nm
  | 0, _, _, _, _, _, _, _, _, h, _ => by omega
  | _ + 1, 0, _, _, _, _, _, _, _, _, h => by omega
  | n + 1, m + 1, l, c, na, nb, ng, nm, hp, hn, hm => by
    simp only [wkM]
    split
    · rfl
    · rename_i hs
      split
      · rfl
      · rename_i ho
        have hf : pF w l nb ng nm = false := by
          cases hh : pF w l nb ng nm with
          | false => rfl
          | true => rw [hh] at hs; cases hs
        obtain ⟨_, q0, q1⟩ := pL_less hp hf
        have ho : pOk (cf (pS w l na nb ng nm)) = true := by simpa using ho
        obtain ⟨_, _, _, e2, e3, _, e5, e6⟩ := pOk_spec (hc _) ho
        have hp' : pnOk (pL w l nb ng nm) (pNb (cf (pS w l na nb ng nm))) (pNg (cf (pS w l na nb ng nm))) := by
          rw [e2, e3]
          exact ⟨⟨q0, by have := hp.1.2; omega⟩, e5, e6⟩
        exact wkM_fuel hc hp' (by omega) (by omega)
/-- Why a walk may not begin. -/
def lbad (l : Int) : Bool := cnd (decide (l < 1)) true (decide (l > 64))
noncomputable def bgE (z : Sl) (l : Int) : Int := cnd (lbad l) 12 (cnd (!pOk z) 20 0)
theorem bgE_ok {z : Sl} {l : Int} (h : bgE z l = 0) : lbad l = false ∧ pOk z = true ∧ 1 ≤ l ∧ l ≤ 64 := by
  unfold bgE at h
  have h1 : lbad l = false := by
    cases hh : lbad l with
    | false => rfl
    | true => rw [hh] at h; cases h
  rw [h1] at h
  have h2 : pOk z = true := by
    cases hh : pOk z with
    | true => rfl
    | false => rw [hh] at h; cases h
  refine ⟨h1, h2, ?_⟩
  unfold lbad at h1
  simp only [cnd_or, Bool.or_eq_false_iff, decide_eq_false_iff_not] at h1
  omega
end Go.Sx.M

namespace Go.Sx.M
open Go Go.Sx Go.Proofs Go.RowKit
set_option maxRecDepth 100000
def V112i (p : P112_0) (W : Wr) (s : S112_0) : Prop := pnOk s.xh0_2 s.xh3_1 s.xh3_2 ∧ wkM (fun a => capS (ld p.R2 a)) p.xh0_1 (s.xh0_2.toNat + 1) s.xh0_2 s.xh0_3 s.xh3_0 s.xh3_1 s.xh3_2 s.xh3_3 = W
def Q112 (p : P112_0) (W : Wr) (s : S112_0) : Prop := (⟨e112_0_2 p s, cnd (e112_0_1 p s) (e112_0_3 p s) true, e112_0_4 p s, e112_0_5 p s⟩ : Wr) = W
theorem l112 {p : P112_0} {W : Wr} {s : S112_0} (hM : MemR p.R2) (h : V112i p W s) : LT (r112_0 p) s ∧ Q112 p W (lastS (r112_0 p) s) := by
  refine LT.post (V112i p W) (Q112 p W) (fun s : S112_0 => s.xh0_2.toNat) ?_ h
  rintro ⟨l, c, na, nb, ng, nm⟩ ⟨h1, h2⟩
  simp only at h1 h2
  have hc : ∀ a, SlR (capS (ld p.R2 a)) := fun a => capS_R (ld_SlR hM a)
  simp only [wkM] at h2
  have e1 : e112_0_1 p ⟨l, c, na, nb, ng, nm⟩ = cnd (!!pF p.xh0_1 l nb ng nm) true (pL p.xh0_1 l nb ng nm == 0) := rfl
  have e8 : e112_0_8 p ⟨l, c, na, nb, ng, nm⟩ = !pOk (capS (ld p.R2 (pS p.xh0_1 l na nb ng nm))) := rfl
  cases hs : cnd (!!pF p.xh0_1 l nb ng nm) true (pL p.xh0_1 l nb ng nm == 0) with
  | true =>
    rw [hs] at e1 h2
    simp only [r112_0, e1, Tr.ok, Tr.get]
    refine ⟨⟨trivial, fun _ => trivial, fun e => by cases e⟩, .inl ⟨⟨_, _, _, rfl⟩, ?_⟩⟩
    unfold Q112
    rw [e1, ← h2]
    rfl
  | false =>
    rw [hs] at e1 h2
    have hf : pF p.xh0_1 l nb ng nm = false := by
      cases hh : pF p.xh0_1 l nb ng nm with
      | false => rfl
      | true => rw [hh] at hs; cases hs
    cases ho : !pOk (capS (ld p.R2 (pS p.xh0_1 l na nb ng nm))) with
    | true =>
      rw [ho] at e8 h2
      simp only [r112_0, e1, e8, Tr.ok, Tr.get]
      refine ⟨⟨trivial, (fun e => by cases e), fun _ => ⟨pS_U _ _ _ _ _ _, trivial, fun _ => trivial, fun e => by cases e⟩⟩, .inl ⟨⟨_, _, _, rfl⟩, ?_⟩⟩
      unfold Q112
      rw [e1, ← h2]
      rfl
    | false =>
      rw [ho] at e8 h2
      simp only [r112_0, e1, e8, Tr.ok, Tr.get]
      obtain ⟨_, q0, q1⟩ := pL_less h1 hf
      have ho' : pOk (capS (ld p.R2 (pS p.xh0_1 l na nb ng nm))) = true := by simpa using ho
      obtain ⟨_, _, _, k2, k3, _, k5, k6⟩ := pOk_spec (hc _) ho'
      have hp' : pnOk (pL p.xh0_1 l nb ng nm) (pNb (capS (ld p.R2 (pS p.xh0_1 l na nb ng nm)))) (pNg (capS (ld p.R2 (pS p.xh0_1 l na nb ng nm)))) := by
        rw [k2, k3]
        exact ⟨⟨q0, by have := h1.1.2; omega⟩, k5, k6⟩
      refine ⟨⟨trivial, (fun e => by cases e), fun _ => ⟨pS_U _ _ _ _ _ _, trivial, (fun e => by cases e), fun _ => trivial⟩⟩, .inr ⟨_, rfl, ⟨hp', ?_⟩, ?_⟩⟩
      · rw [← h2]
        have hq : (pL p.xh0_1 l nb ng nm).toNat < l.toNat := by omega
        exact wkM_fuel (n := (pL p.xh0_1 l nb ng nm).toNat + 1) hc hp' (Nat.lt_succ_self _) hq
      · show (pL p.xh0_1 l nb ng nm).toNat < l.toNat
        omega
def pre112 (v : V112) : Prop := pnOk v.l v.nb v.ng ∧ MemR v.M
theorem n112 (v : V112) (h : pre112 v) : (f112 v).ok ∧ (f112 v).get.1 = .tup [.int .u64 (wkM (fun a => capS (ld v.M a)) v.w (v.l.toNat + 1) v.l v.c v.na v.nb v.ng v.nm).s, .bool (wkM (fun a => capS (ld v.M a)) v.w (v.l.toNat + 1) v.l v.c v.na v.nb v.ng v.nm).ok] ∧ HOws (f112 v).get.2.1 [HO.cells 163 [.ptr 1 0, .int .u64 v.w, .int .i64 ((wkM (fun a => capS (ld v.M a)) v.w (v.l.toNat + 1) v.l v.c v.na v.nb v.ng v.nm).l), .int .i64 ((wkM (fun a => capS (ld v.M a)) v.w (v.l.toNat + 1) v.l v.c v.na v.nb v.ng v.nm).c)], HO.cells 175 [.ptr 2 0, .int .u64 v.f, .int .i64 v.cc], HO.res v.M] := by
  obtain ⟨k1, k2⟩ := l112 (p := f112_6 v) (W := wkM (fun a => capS (ld v.M a)) v.w (v.l.toNat + 1) v.l v.c v.na v.nb v.ng v.nm) (s := f112_7 v) h.2 ⟨h.1, rfl⟩
  refine ⟨⟨k1, trivial⟩, ?_, ?_⟩
  · rw [← k2]
    simp only [f112, Tr.get, f112_1, f112_2, cnd_same]
    rfl
  · rw [← k2]
    simp only [f112, Tr.get, f112_3, f112_4, f112_5, cnd_same]
    exact .refl _
noncomputable def f112n (v : V112) : Tr (Fin th.R) := .need (pre112 v) (.leaf (.tup [.int .u64 (wkM (fun a => capS (ld v.M a)) v.w (v.l.toNat + 1) v.l v.c v.na v.nb v.ng v.nm).s, .bool (wkM (fun a => capS (ld v.M a)) v.w (v.l.toNat + 1) v.l v.c v.na v.nb v.ng v.nm).ok], [.cells 163 [.ptr 1 0, .int .u64 v.w, .int .i64 ((wkM (fun a => capS (ld v.M a)) v.w (v.l.toNat + 1) v.l v.c v.na v.nb v.ng v.nm).l), .int .i64 ((wkM (fun a => capS (ld v.M a)) v.w (v.l.toNat + 1) v.l v.c v.na v.nb v.ng v.nm).c)], .cells 175 [.ptr 2 0, .int .u64 v.f, .int .i64 v.cc], .res v.M], [0]))
theorem s112n : Sound Try.prog th 112 (fnC d112 ofV112 f112n) := fnC_refine s112 fun v h => by
  obtain ⟨hp, _⟩ := h
  obtain ⟨a, b, c⟩ := n112 v hp
  exact ⟨a, b.symm, (qdd112 v).symm, c, by show 3 ≤ 3; decide⟩
noncomputable def nice112n : List (Nat × CF th.R) := (112, lift (fnC d112 ofV112 f112n)) :: nice170n
theorem nok112n : NiceOk Try.prog th nice112n := ⟨lift_sound s112n, nok170n⟩
end Go.Sx.M

namespace Go.Sx.M
open Go Go.Sx Go.Proofs Go.RowKit
set_option maxRecDepth 100000
structure V111a where
  k : Int
  a : Int
  b : Int
  r : Int
  g : Int
  s : Int
  m : Int
  w : Int
  l : Int
  f : Int
  c : Int
  M : th.R
def A111a (v : V111a) : List SV := [.ptr 0 0, .agg [.int .i64 v.k, .int .u64 v.a, .int .i64 v.b, .int .i64 v.r, .int .i64 v.g, .int .i64 v.s, .int .u64 v.m], .int .u64 v.w, .int .i64 v.l]
def H111a (v : V111a) : List (HO th.R) := [.cells 175 [.ptr 1 0, .int .u64 v.f, .int .i64 v.c], .res v.M]
def toV111a (v : V111a) : List (Vl th.R) := [.i v.k, .i v.a, .i v.b, .i v.r, .i v.g, .i v.s, .i v.m, .i v.w, .i v.l, .i v.f, .i v.c, .r v.M]
def ofV111a : List (Vl th.R) → Option V111a
  | [.i k, .i a, .i b, .i r, .i g, .i s, .i m, .i w, .i l, .i f, .i c, .r M] => some ⟨k, a, b, r, g, s, m, w, l, f, c, M⟩
  | _ => none
def d111a : Ft := ⟨[.ptr 0 0, .agg [.int .i64, .int .u64, .int .i64, .int .i64, .int .i64, .int .i64, .int .u64], .int .u64, .int .i64], [.cells 175 [.ptr 1 0, .int .u64, .int .i64], .res]⟩
noncomputable def f111a_7 (v : V111a) : (Bool) := cnd (decide (v.l < (1 : Int))) true (decide (v.l > (64 : Int)))
noncomputable def f111a_8 (v : V111a) : (Sl) := Sl.mk v.k v.a v.b v.r v.g v.s v.m (0 : Int) (0 : Int) (0 : Int)
noncomputable def f111a_0 (v : V111a) : (Prop) := f111a_7 v = false → pre124 (V124.mk v.k v.a v.b v.r v.g v.s v.m)
noncomputable def f111a_1 (v : V111a) : (Bool) := f111a_7 v
noncomputable def f111a_2 (v : V111a) : (Bool) := !pOk (f111a_8 v)
noncomputable def f111a_3 (v : V111a) : (Int) := pNa (f111a_8 v)
noncomputable def f111a_4 (v : V111a) : (Int) := pNb (f111a_8 v)
noncomputable def f111a_5 (v : V111a) : (Int) := pNg (f111a_8 v)
noncomputable def f111a_6 (v : V111a) : (Int) := pNm (f111a_8 v)
noncomputable def ff111a (v : V111a) : Tr (Fin th.R) := (Tr.need (f111a_0 v) (Tr.ite (f111a_1 v) (Tr.leaf ((SV.tup [SV.nilp, (SV.agg [(SV.int .u64 (0 : Int)), (SV.int .i64 (0 : Int)), (SV.int .i64 (0 : Int)), (SV.int .u64 (0 : Int))]), (SV.int .i64 (12 : Int))]), [(HO.cells (175 : Nat) [(SV.ptr (1 : Nat) (0:Nat)), SV.int .u64 (v.f), SV.int .i64 (v.c)]), HO.res (v.M)], List.nil)) (Tr.ite (f111a_2 v) (Tr.leaf ((SV.tup [SV.nilp, SV.agg [SV.int .u64 (f111a_3 v), SV.int .i64 (f111a_4 v), SV.int .i64 (f111a_5 v), SV.int .u64 (f111a_6 v)], (SV.int .i64 (20 : Int))]), [(HO.cells (175 : Nat) [(SV.ptr (1 : Nat) (0:Nat)), SV.int .u64 (v.f), SV.int .i64 (v.c)]), HO.res (v.M)], List.nil)) (Tr.leaf ((SV.tup [(SV.ptr (5) (0:Nat)), SV.agg [SV.int .u64 (f111a_3 v), SV.int .i64 (f111a_4 v), SV.int .i64 (f111a_5 v), SV.int .u64 (f111a_6 v)], (SV.int .i64 (0 : Int))]), [(HO.cells (175 : Nat) [(SV.ptr (1 : Nat) (0:Nat)), SV.int .u64 (v.f), SV.int .i64 (v.c)]), HO.res (v.M), (HO.cells (38 : Nat) [SV.int .i64 (v.k), SV.int .u64 (v.a), SV.int .i64 (v.b), SV.int .i64 (v.r), SV.int .i64 (v.g), SV.int .i64 (v.s), SV.int .u64 (v.m)]), (HO.cells (158 : Nat) [SV.int .u64 (f111a_3 v), SV.int .i64 (f111a_4 v), SV.int .i64 (f111a_5 v), SV.int .u64 (f111a_6 v)]), (HO.cells (158 : Nat) [SV.int .u64 (f111a_3 v), SV.int .i64 (f111a_4 v), SV.int .i64 (f111a_5 v), SV.int .u64 (f111a_6 v)]), (HO.cells (163 : Nat) [(SV.ptr (0:Nat) (0:Nat)), SV.int .u64 (v.w), SV.int .i64 (v.l), (SV.int .i64 (0 : Int))])], [3, 4])))))
noncomputable def f111a (v : V111a) : Tr (Fin th.R) := (Tr.need (f111a_0 v) (Tr.ite (f111a_1 v) (Tr.leaf ((SV.tup [SV.nilp, (SV.agg [(SV.int .u64 (0 : Int)), (SV.int .i64 (0 : Int)), (SV.int .i64 (0 : Int)), (SV.int .u64 (0 : Int))]), (SV.int .i64 (12 : Int))]), [(HO.cells (175 : Nat) [(SV.ptr (1 : Nat) (0:Nat)), SV.int .u64 (v.f), SV.int .i64 (v.c)]), HO.res (v.M)], [])) (Tr.ite (f111a_2 v) (Tr.leaf ((SV.tup [SV.nilp, SV.agg [SV.int .u64 (f111a_3 v), SV.int .i64 (f111a_4 v), SV.int .i64 (f111a_5 v), SV.int .u64 (f111a_6 v)], (SV.int .i64 (20 : Int))]), [(HO.cells (175 : Nat) [(SV.ptr (1 : Nat) (0:Nat)), SV.int .u64 (v.f), SV.int .i64 (v.c)]), HO.res (v.M)], [])) (Tr.leaf ((SV.tup [(SV.ptr (5) (0:Nat)), SV.agg [SV.int .u64 (f111a_3 v), SV.int .i64 (f111a_4 v), SV.int .i64 (f111a_5 v), SV.int .u64 (f111a_6 v)], (SV.int .i64 (0 : Int))]), [(HO.cells (175 : Nat) [(SV.ptr (1 : Nat) (0:Nat)), SV.int .u64 (v.f), SV.int .i64 (v.c)]), HO.res (v.M), (HO.cells (38 : Nat) [SV.int .i64 (v.k), SV.int .u64 (v.a), SV.int .i64 (v.b), SV.int .i64 (v.r), SV.int .i64 (v.g), SV.int .i64 (v.s), SV.int .u64 (v.m)]), (HO.cells (158 : Nat) [SV.int .u64 (f111a_3 v), SV.int .i64 (f111a_4 v), SV.int .i64 (f111a_5 v), SV.int .u64 (f111a_6 v)]), (HO.cells (158 : Nat) [SV.int .u64 (f111a_3 v), SV.int .i64 (f111a_4 v), SV.int .i64 (f111a_5 v), SV.int .u64 (f111a_6 v)]), (HO.cells (163 : Nat) [(SV.ptr (0:Nat) (0:Nat)), SV.int .u64 (v.w), SV.int .i64 (v.l), (SV.int .i64 (0 : Int))])], [])))))
noncomputable def C111a : CF th.R := fnC d111a ofV111a (f111a )
theorem q111a (v : V111a) : (evFn th Try.prog (auto th Try.prog nice112n [] 20) (autoH [] [] [] [] : Hints th) 111) (A111a v) (H111a v) = some (ff111a v) := by kernel_rfl
theorem qg111a (v : V111a) : ((ff111a v).map (setD [])).get = (f111a v).get := by kernel_rfl
theorem qd111a (v : V111a) : allD 2 [] (ff111a v) = true := by kernel_rfl
theorem s111a : Sound Try.prog th 111 (C111a ) := fnC_sound (evFn_sound' (T := th) (P := Try.prog) (tbl := (auto th Try.prog nice112n [] 20)) (auto_sound (nice := nice112n) (us := []) nok112n 20) (H := (autoH [] [] [] [] : Hints th)) (k := 111) (fnLoops (LoopsOk_mem (fun _ => rfl) _ fun _ _ _ e => by cases e))) d111a A111a H111a toV111a (by kernel_rfl) (fun v => by kernel_rfl)
  (fun l v h => by
    unfold ofV111a at h
    split at h
    · cases h; rfl
    · cases h)
  [] (fun v => ⟨ff111a v, q111a v, id, qg111a v, qd111a v⟩)
theorem qdd111a (v : V111a) : (f111a v).get.2.2 = [] := by
  rw [← qg111a, Tr.map_get]; rfl
end Go.Sx.M

namespace Go.Sx.M
open Go Go.Sx Go.Proofs Go.RowKit
set_option maxRecDepth 100000
def pre111a (v : V111a) : Prop := lbad v.l = true
theorem n111a (v : V111a) (h : pre111a v) : (f111a v).ok ∧ (f111a v).get.1 = .tup [.nilp, .agg [.int .u64 0, .int .i64 0, .int .i64 0, .int .u64 0], .int .i64 12] ∧ HOws (f111a v).get.2.1 [HO.cells 175 [.ptr 1 0, .int .u64 (v.f), .int .i64 (v.c)], HO.res v.M] := by
  have e1 : f111a_1 v = lbad v.l := rfl
  have e2 : f111a_2 v = !pOk (Sl.mk v.k v.a v.b v.r v.g v.s v.m 0 0 0) := rfl
  have h : lbad v.l = true := h
  simp only [f111a, Tr.ok, Tr.get, e1, h]
  exact ⟨⟨fun _ => trivial, fun _ => trivial, fun e => by cases e⟩, trivial, .refl _⟩
noncomputable def f111an (v : V111a) : Tr (Fin th.R) := .need (pre111a v) (.leaf (.tup [.nilp, .agg [.int .u64 0, .int .i64 0, .int .i64 0, .int .u64 0], .int .i64 12], [.cells 175 [.ptr 1 0, .int .u64 (v.f), .int .i64 (v.c)], .res v.M], []))
theorem s111an : Sound Try.prog th 111 (fnC d111a ofV111a f111an) := fnC_refine s111a fun v h => by
  obtain ⟨hp, _⟩ := h
  obtain ⟨a, b, c⟩ := n111a v hp
  exact ⟨a, b.symm, (qdd111a v).symm, c, by show 2 ≤ 2; decide⟩
noncomputable def nice111an : List (Nat × CF th.R) := (111, lift (fnC d111a ofV111a f111an)) :: nice112n
theorem nok111an : NiceOk Try.prog th nice111an := ⟨lift_sound s111an, nok112n⟩
end Go.Sx.M

namespace Go.Sx.M
open Go Go.Sx Go.Proofs Go.RowKit
set_option maxRecDepth 100000
structure V39a where
  k : Int
  a : Int
  b : Int
  r : Int
  g : Int
  s : Int
  m : Int
  w : Int
  l : Int
  f : Int
  c : Int
  M : th.R
def A39a (v : V39a) : List SV := [.ptr 0 0, .agg [.int .i64 v.k, .int .u64 v.a, .int .i64 v.b, .int .i64 v.r, .int .i64 v.g, .int .i64 v.s, .int .u64 v.m], .int .u64 v.w, .int .i64 v.l]
def H39a (v : V39a) : List (HO th.R) := [.cells 175 [.ptr 1 0, .int .u64 v.f, .int .i64 v.c], .res v.M]
def toV39a (v : V39a) : List (Vl th.R) := [.i v.k, .i v.a, .i v.b, .i v.r, .i v.g, .i v.s, .i v.m, .i v.w, .i v.l, .i v.f, .i v.c, .r v.M]
def ofV39a : List (Vl th.R) → Option V39a
  | [.i k, .i a, .i b, .i r, .i g, .i s, .i m, .i w, .i l, .i f, .i c, .r M] => some ⟨k, a, b, r, g, s, m, w, l, f, c, M⟩
  | _ => none
def d39a : Ft := ⟨[.ptr 0 0, .agg [.int .i64, .int .u64, .int .i64, .int .i64, .int .i64, .int .i64, .int .u64], .int .u64, .int .i64], [.cells 175 [.ptr 1 0, .int .u64, .int .i64], .res]⟩
noncomputable def f39a_0 (v : V39a) : (Prop) := pre111a (V111a.mk v.k v.a v.b v.r v.g v.s v.m v.w v.l v.f v.c v.M)
noncomputable def ff39a (v : V39a) : Tr (Fin th.R) := (Tr.need (f39a_0 v) (Tr.leaf ((SV.int .i64 (0 : Int)), [(HO.cells (175 : Nat) [(SV.ptr (1 : Nat) (0:Nat)), SV.int .u64 (v.f), SV.int .i64 (v.c)]), HO.res (v.M)], List.nil)))
noncomputable def f39a (v : V39a) : Tr (Fin th.R) := (Tr.need (f39a_0 v) (Tr.leaf ((SV.int .i64 (0 : Int)), [(HO.cells (175 : Nat) [(SV.ptr (1 : Nat) (0:Nat)), SV.int .u64 (v.f), SV.int .i64 (v.c)]), HO.res (v.M)], [])))
noncomputable def C39a : CF th.R := fnC d39a ofV39a (f39a )
theorem q39a (v : V39a) : (evFn th Try.prog (auto th Try.prog nice111an [] 20) (autoH [] [] [22] [] : Hints th) 39) (A39a v) (H39a v) = some (ff39a v) := by kernel_rfl
theorem qg39a (v : V39a) : ((ff39a v).map (setD [])).get = (f39a v).get := by kernel_rfl
theorem qd39a (v : V39a) : allD 2 [] (ff39a v) = true := by kernel_rfl
theorem s39a : Sound Try.prog th 39 (C39a ) := fnC_sound (evFn_sound' (T := th) (P := Try.prog) (tbl := (auto th Try.prog nice111an [] 20)) (auto_sound (nice := nice111an) (us := []) nok111an 20) (H := (autoH [] [] [22] [] : Hints th)) (k := 39) (fnLoops (LoopsOk_mem (fun _ => rfl) _ fun _ _ _ e => by cases e))) d39a A39a H39a toV39a (by kernel_rfl) (fun v => by kernel_rfl)
  (fun l v h => by
    unfold ofV39a at h
    split at h
    · cases h; rfl
    · cases h)
  [] (fun v => ⟨ff39a v, q39a v, id, qg39a v, qd39a v⟩)
end Go.Sx.M

namespace Go.Sx.M
open Go Go.Sx Go.Proofs Go.RowKit
set_option maxRecDepth 100000
structure V111b where
  k : Int
  a : Int
  b : Int
  r : Int
  g : Int
  s : Int
  m : Int
  w : Int
  l : Int
  f : Int
  c : Int
  M : th.R
def A111b (v : V111b) : List SV := [.ptr 0 0, .agg [.int .i64 v.k, .int .u64 v.a, .int .i64 v.b, .int .i64 v.r, .int .i64 v.g, .int .i64 v.s, .int .u64 v.m], .int .u64 v.w, .int .i64 v.l]
def H111b (v : V111b) : List (HO th.R) := [.cells 175 [.ptr 1 0, .int .u64 v.f, .int .i64 v.c], .res v.M]
def toV111b (v : V111b) : List (Vl th.R) := [.i v.k, .i v.a, .i v.b, .i v.r, .i v.g, .i v.s, .i v.m, .i v.w, .i v.l, .i v.f, .i v.c, .r v.M]
def ofV111b : List (Vl th.R) → Option V111b
  | [.i k, .i a, .i b, .i r, .i g, .i s, .i m, .i w, .i l, .i f, .i c, .r M] => some ⟨k, a, b, r, g, s, m, w, l, f, c, M⟩
  | _ => none
def d111b : Ft := ⟨[.ptr 0 0, .agg [.int .i64, .int .u64, .int .i64, .int .i64, .int .i64, .int .i64, .int .u64], .int .u64, .int .i64], [.cells 175 [.ptr 1 0, .int .u64, .int .i64], .res]⟩
noncomputable def f111b_7 (v : V111b) : (Bool) := cnd (decide (v.l < (1 : Int))) true (decide (v.l > (64 : Int)))
noncomputable def f111b_8 (v : V111b) : (Sl) := Sl.mk v.k v.a v.b v.r v.g v.s v.m (0 : Int) (0 : Int) (0 : Int)
noncomputable def f111b_0 (v : V111b) : (Prop) := f111b_7 v = false → pre124 (V124.mk v.k v.a v.b v.r v.g v.s v.m)
noncomputable def f111b_1 (v : V111b) : (Bool) := f111b_7 v
noncomputable def f111b_2 (v : V111b) : (Bool) := !pOk (f111b_8 v)
noncomputable def f111b_3 (v : V111b) : (Int) := pNa (f111b_8 v)
noncomputable def f111b_4 (v : V111b) : (Int) := pNb (f111b_8 v)
noncomputable def f111b_5 (v : V111b) : (Int) := pNg (f111b_8 v)
noncomputable def f111b_6 (v : V111b) : (Int) := pNm (f111b_8 v)
noncomputable def ff111b (v : V111b) : Tr (Fin th.R) := (Tr.need (f111b_0 v) (Tr.ite (f111b_1 v) (Tr.leaf ((SV.tup [SV.nilp, (SV.agg [(SV.int .u64 (0 : Int)), (SV.int .i64 (0 : Int)), (SV.int .i64 (0 : Int)), (SV.int .u64 (0 : Int))]), (SV.int .i64 (12 : Int))]), [(HO.cells (175 : Nat) [(SV.ptr (1 : Nat) (0:Nat)), SV.int .u64 (v.f), SV.int .i64 (v.c)]), HO.res (v.M)], List.nil)) (Tr.ite (f111b_2 v) (Tr.leaf ((SV.tup [SV.nilp, SV.agg [SV.int .u64 (f111b_3 v), SV.int .i64 (f111b_4 v), SV.int .i64 (f111b_5 v), SV.int .u64 (f111b_6 v)], (SV.int .i64 (20 : Int))]), [(HO.cells (175 : Nat) [(SV.ptr (1 : Nat) (0:Nat)), SV.int .u64 (v.f), SV.int .i64 (v.c)]), HO.res (v.M)], List.nil)) (Tr.leaf ((SV.tup [(SV.ptr (5) (0:Nat)), SV.agg [SV.int .u64 (f111b_3 v), SV.int .i64 (f111b_4 v), SV.int .i64 (f111b_5 v), SV.int .u64 (f111b_6 v)], (SV.int .i64 (0 : Int))]), [(HO.cells (175 : Nat) [(SV.ptr (1 : Nat) (0:Nat)), SV.int .u64 (v.f), SV.int .i64 (v.c)]), HO.res (v.M), (HO.cells (38 : Nat) [SV.int .i64 (v.k), SV.int .u64 (v.a), SV.int .i64 (v.b), SV.int .i64 (v.r), SV.int .i64 (v.g), SV.int .i64 (v.s), SV.int .u64 (v.m)]), (HO.cells (158 : Nat) [SV.int .u64 (f111b_3 v), SV.int .i64 (f111b_4 v), SV.int .i64 (f111b_5 v), SV.int .u64 (f111b_6 v)]), (HO.cells (158 : Nat) [SV.int .u64 (f111b_3 v), SV.int .i64 (f111b_4 v), SV.int .i64 (f111b_5 v), SV.int .u64 (f111b_6 v)]), (HO.cells (163 : Nat) [(SV.ptr (0:Nat) (0:Nat)), SV.int .u64 (v.w), SV.int .i64 (v.l), (SV.int .i64 (0 : Int))])], [3, 4])))))
noncomputable def f111b (v : V111b) : Tr (Fin th.R) := (Tr.need (f111b_0 v) (Tr.ite (f111b_1 v) (Tr.leaf ((SV.tup [SV.nilp, (SV.agg [(SV.int .u64 (0 : Int)), (SV.int .i64 (0 : Int)), (SV.int .i64 (0 : Int)), (SV.int .u64 (0 : Int))]), (SV.int .i64 (12 : Int))]), [(HO.cells (175 : Nat) [(SV.ptr (1 : Nat) (0:Nat)), SV.int .u64 (v.f), SV.int .i64 (v.c)]), HO.res (v.M)], [])) (Tr.ite (f111b_2 v) (Tr.leaf ((SV.tup [SV.nilp, SV.agg [SV.int .u64 (f111b_3 v), SV.int .i64 (f111b_4 v), SV.int .i64 (f111b_5 v), SV.int .u64 (f111b_6 v)], (SV.int .i64 (20 : Int))]), [(HO.cells (175 : Nat) [(SV.ptr (1 : Nat) (0:Nat)), SV.int .u64 (v.f), SV.int .i64 (v.c)]), HO.res (v.M)], [])) (Tr.leaf ((SV.tup [(SV.ptr (5) (0:Nat)), SV.agg [SV.int .u64 (f111b_3 v), SV.int .i64 (f111b_4 v), SV.int .i64 (f111b_5 v), SV.int .u64 (f111b_6 v)], (SV.int .i64 (0 : Int))]), [(HO.cells (175 : Nat) [(SV.ptr (1 : Nat) (0:Nat)), SV.int .u64 (v.f), SV.int .i64 (v.c)]), HO.res (v.M), (HO.cells (38 : Nat) [SV.int .i64 (v.k), SV.int .u64 (v.a), SV.int .i64 (v.b), SV.int .i64 (v.r), SV.int .i64 (v.g), SV.int .i64 (v.s), SV.int .u64 (v.m)]), (HO.cells (158 : Nat) [SV.int .u64 (f111b_3 v), SV.int .i64 (f111b_4 v), SV.int .i64 (f111b_5 v), SV.int .u64 (f111b_6 v)]), (HO.cells (158 : Nat) [SV.int .u64 (f111b_3 v), SV.int .i64 (f111b_4 v), SV.int .i64 (f111b_5 v), SV.int .u64 (f111b_6 v)]), (HO.cells (163 : Nat) [(SV.ptr (0:Nat) (0:Nat)), SV.int .u64 (v.w), SV.int .i64 (v.l), (SV.int .i64 (0 : Int))])], [])))))
noncomputable def C111b : CF th.R := fnC d111b ofV111b (f111b )
theorem q111b (v : V111b) : (evFn th Try.prog (auto th Try.prog nice112n [] 20) (autoH [] [] [] [] : Hints th) 111) (A111b v) (H111b v) = some (ff111b v) := by kernel_rfl
theorem qg111b (v : V111b) : ((ff111b v).map (setD [])).get = (f111b v).get := by kernel_rfl
theorem qd111b (v : V111b) : allD 2 [] (ff111b v) = true := by kernel_rfl
theorem s111b : Sound Try.prog th 111 (C111b ) := fnC_sound (evFn_sound' (T := th) (P := Try.prog) (tbl := (auto th Try.prog nice112n [] 20)) (auto_sound (nice := nice112n) (us := []) nok112n 20) (H := (autoH [] [] [] [] : Hints th)) (k := 111) (fnLoops (LoopsOk_mem (fun _ => rfl) _ fun _ _ _ e => by cases e))) d111b A111b H111b toV111b (by kernel_rfl) (fun v => by kernel_rfl)
  (fun l v h => by
    unfold ofV111b at h
    split at h
    · cases h; rfl
    · cases h)
  [] (fun v => ⟨ff111b v, q111b v, id, qg111b v, qd111b v⟩)
theorem qdd111b (v : V111b) : (f111b v).get.2.2 = [] := by
  rw [← qg111b, Tr.map_get]; rfl
end Go.Sx.M

namespace Go.Sx.M
open Go Go.Sx Go.Proofs Go.RowKit
set_option maxRecDepth 100000
def pre111b (v : V111b) : Prop := lbad v.l = false ∧ pOk (Sl.mk v.k v.a v.b v.r v.g v.s v.m 0 0 0) = false
theorem n111b (v : V111b) (h : pre111b v) : (f111b v).ok ∧ (f111b v).get.1 = .tup [.nilp, .agg [.int .u64 (pNa (Sl.mk v.k v.a v.b v.r v.g v.s v.m 0 0 0)), .int .i64 (pNb (Sl.mk v.k v.a v.b v.r v.g v.s v.m 0 0 0)), .int .i64 (pNg (Sl.mk v.k v.a v.b v.r v.g v.s v.m 0 0 0)), .int .u64 (pNm (Sl.mk v.k v.a v.b v.r v.g v.s v.m 0 0 0))], .int .i64 20] ∧ HOws (f111b v).get.2.1 [HO.cells 175 [.ptr 1 0, .int .u64 (v.f), .int .i64 (v.c)], HO.res v.M] := by
  have e1 : f111b_1 v = lbad v.l := rfl
  have e2 : f111b_2 v = !pOk (Sl.mk v.k v.a v.b v.r v.g v.s v.m 0 0 0) := rfl
  obtain ⟨h1, h2⟩ := h
  simp only [f111b, Tr.ok, Tr.get, e1, e2, h1, h2]
  exact ⟨⟨fun _ => trivial, (fun e => by cases e), fun _ => ⟨fun _ => trivial, fun e => by cases e⟩⟩, rfl, .refl _⟩
noncomputable def f111bn (v : V111b) : Tr (Fin th.R) := .need (pre111b v) (.leaf (.tup [.nilp, .agg [.int .u64 (pNa (Sl.mk v.k v.a v.b v.r v.g v.s v.m 0 0 0)), .int .i64 (pNb (Sl.mk v.k v.a v.b v.r v.g v.s v.m 0 0 0)), .int .i64 (pNg (Sl.mk v.k v.a v.b v.r v.g v.s v.m 0 0 0)), .int .u64 (pNm (Sl.mk v.k v.a v.b v.r v.g v.s v.m 0 0 0))], .int .i64 20], [.cells 175 [.ptr 1 0, .int .u64 (v.f), .int .i64 (v.c)], .res v.M], []))
theorem s111bn : Sound Try.prog th 111 (fnC d111b ofV111b f111bn) := fnC_refine s111b fun v h => by
  obtain ⟨hp, _⟩ := h
  obtain ⟨a, b, c⟩ := n111b v hp
  exact ⟨a, b.symm, (qdd111b v).symm, c, by show 2 ≤ 2; decide⟩
noncomputable def nice111bn : List (Nat × CF th.R) := (111, lift (fnC d111b ofV111b f111bn)) :: nice112n
theorem nok111bn : NiceOk Try.prog th nice111bn := ⟨lift_sound s111bn, nok112n⟩
end Go.Sx.M

namespace Go.Sx.M
open Go Go.Sx Go.Proofs Go.RowKit
set_option maxRecDepth 100000
structure V39b where
  k : Int
  a : Int
  b : Int
  r : Int
  g : Int
  s : Int
  m : Int
  w : Int
  l : Int
  f : Int
  c : Int
  M : th.R
def A39b (v : V39b) : List SV := [.ptr 0 0, .agg [.int .i64 v.k, .int .u64 v.a, .int .i64 v.b, .int .i64 v.r, .int .i64 v.g, .int .i64 v.s, .int .u64 v.m], .int .u64 v.w, .int .i64 v.l]
def H39b (v : V39b) : List (HO th.R) := [.cells 175 [.ptr 1 0, .int .u64 v.f, .int .i64 v.c], .res v.M]
def toV39b (v : V39b) : List (Vl th.R) := [.i v.k, .i v.a, .i v.b, .i v.r, .i v.g, .i v.s, .i v.m, .i v.w, .i v.l, .i v.f, .i v.c, .r v.M]
def ofV39b : List (Vl th.R) → Option V39b
  | [.i k, .i a, .i b, .i r, .i g, .i s, .i m, .i w, .i l, .i f, .i c, .r M] => some ⟨k, a, b, r, g, s, m, w, l, f, c, M⟩
  | _ => none
def d39b : Ft := ⟨[.ptr 0 0, .agg [.int .i64, .int .u64, .int .i64, .int .i64, .int .i64, .int .i64, .int .u64], .int .u64, .int .i64], [.cells 175 [.ptr 1 0, .int .u64, .int .i64], .res]⟩
noncomputable def f39b_0 (v : V39b) : (Prop) := pre111b (V111b.mk v.k v.a v.b v.r v.g v.s v.m v.w v.l v.f v.c v.M)
noncomputable def ff39b (v : V39b) : Tr (Fin th.R) := (Tr.need (f39b_0 v) (Tr.leaf ((SV.int .i64 (0 : Int)), [(HO.cells (175 : Nat) [(SV.ptr (1 : Nat) (0:Nat)), SV.int .u64 (v.f), SV.int .i64 (v.c)]), HO.res (v.M)], List.nil)))
noncomputable def f39b (v : V39b) : Tr (Fin th.R) := (Tr.need (f39b_0 v) (Tr.leaf ((SV.int .i64 (0 : Int)), [(HO.cells (175 : Nat) [(SV.ptr (1 : Nat) (0:Nat)), SV.int .u64 (v.f), SV.int .i64 (v.c)]), HO.res (v.M)], [])))
noncomputable def C39b : CF th.R := fnC d39b ofV39b (f39b )
theorem q39b (v : V39b) : (evFn th Try.prog (auto th Try.prog nice111bn [] 20) (autoH [] [] [22] [] : Hints th) 39) (A39b v) (H39b v) = some (ff39b v) := by kernel_rfl
theorem qg39b (v : V39b) : ((ff39b v).map (setD [])).get = (f39b v).get := by kernel_rfl
theorem qd39b (v : V39b) : allD 2 [] (ff39b v) = true := by kernel_rfl
theorem s39b : Sound Try.prog th 39 (C39b ) := fnC_sound (evFn_sound' (T := th) (P := Try.prog) (tbl := (auto th Try.prog nice111bn [] 20)) (auto_sound (nice := nice111bn) (us := []) nok111bn 20) (H := (autoH [] [] [22] [] : Hints th)) (k := 39) (fnLoops (LoopsOk_mem (fun _ => rfl) _ fun _ _ _ e => by cases e))) d39b A39b H39b toV39b (by kernel_rfl) (fun v => by kernel_rfl)
  (fun l v h => by
    unfold ofV39b at h
    split at h
    · cases h; rfl
    · cases h)
  [] (fun v => ⟨ff39b v, q39b v, id, qg39b v, qd39b v⟩)
end Go.Sx.M

namespace Go.Sx.M
open Go Go.Sx Go.Proofs Go.RowKit
set_option maxRecDepth 100000
structure V111o where
  k : Int
  a : Int
  b : Int
  r : Int
  g : Int
  s : Int
  m : Int
  w : Int
  l : Int
  f : Int
  c : Int
  M : th.R
def A111o (v : V111o) : List SV := [.ptr 0 0, .agg [.int .i64 v.k, .int .u64 v.a, .int .i64 v.b, .int .i64 v.r, .int .i64 v.g, .int .i64 v.s, .int .u64 v.m], .int .u64 v.w, .int .i64 v.l]
def H111o (v : V111o) : List (HO th.R) := [.cells 175 [.ptr 1 0, .int .u64 v.f, .int .i64 v.c], .res v.M]
def toV111o (v : V111o) : List (Vl th.R) := [.i v.k, .i v.a, .i v.b, .i v.r, .i v.g, .i v.s, .i v.m, .i v.w, .i v.l, .i v.f, .i v.c, .r v.M]
def ofV111o : List (Vl th.R) → Option V111o
  | [.i k, .i a, .i b, .i r, .i g, .i s, .i m, .i w, .i l, .i f, .i c, .r M] => some ⟨k, a, b, r, g, s, m, w, l, f, c, M⟩
  | _ => none
def d111o : Ft := ⟨[.ptr 0 0, .agg [.int .i64, .int .u64, .int .i64, .int .i64, .int .i64, .int .i64, .int .u64], .int .u64, .int .i64], [.cells 175 [.ptr 1 0, .int .u64, .int .i64], .res]⟩
noncomputable def f111o_7 (v : V111o) : (Bool) := cnd (decide (v.l < (1 : Int))) true (decide (v.l > (64 : Int)))
noncomputable def f111o_8 (v : V111o) : (Sl) := Sl.mk v.k v.a v.b v.r v.g v.s v.m (0 : Int) (0 : Int) (0 : Int)
noncomputable def f111o_0 (v : V111o) : (Prop) := f111o_7 v = false → pre124 (V124.mk v.k v.a v.b v.r v.g v.s v.m)
noncomputable def f111o_1 (v : V111o) : (Bool) := f111o_7 v
noncomputable def f111o_2 (v : V111o) : (Bool) := !pOk (f111o_8 v)
noncomputable def f111o_3 (v : V111o) : (Int) := pNa (f111o_8 v)
noncomputable def f111o_4 (v : V111o) : (Int) := pNb (f111o_8 v)
noncomputable def f111o_5 (v : V111o) : (Int) := pNg (f111o_8 v)
noncomputable def f111o_6 (v : V111o) : (Int) := pNm (f111o_8 v)
noncomputable def ff111o (v : V111o) : Tr (Fin th.R) := (Tr.need (f111o_0 v) (Tr.ite (f111o_1 v) (Tr.leaf ((SV.tup [SV.nilp, (SV.agg [(SV.int .u64 (0 : Int)), (SV.int .i64 (0 : Int)), (SV.int .i64 (0 : Int)), (SV.int .u64 (0 : Int))]), (SV.int .i64 (12 : Int))]), [(HO.cells (175 : Nat) [(SV.ptr (1 : Nat) (0:Nat)), SV.int .u64 (v.f), SV.int .i64 (v.c)]), HO.res (v.M)], List.nil)) (Tr.ite (f111o_2 v) (Tr.leaf ((SV.tup [SV.nilp, SV.agg [SV.int .u64 (f111o_3 v), SV.int .i64 (f111o_4 v), SV.int .i64 (f111o_5 v), SV.int .u64 (f111o_6 v)], (SV.int .i64 (20 : Int))]), [(HO.cells (175 : Nat) [(SV.ptr (1 : Nat) (0:Nat)), SV.int .u64 (v.f), SV.int .i64 (v.c)]), HO.res (v.M)], List.nil)) (Tr.leaf ((SV.tup [(SV.ptr (5) (0:Nat)), SV.agg [SV.int .u64 (f111o_3 v), SV.int .i64 (f111o_4 v), SV.int .i64 (f111o_5 v), SV.int .u64 (f111o_6 v)], (SV.int .i64 (0 : Int))]), [(HO.cells (175 : Nat) [(SV.ptr (1 : Nat) (0:Nat)), SV.int .u64 (v.f), SV.int .i64 (v.c)]), HO.res (v.M), (HO.cells (38 : Nat) [SV.int .i64 (v.k), SV.int .u64 (v.a), SV.int .i64 (v.b), SV.int .i64 (v.r), SV.int .i64 (v.g), SV.int .i64 (v.s), SV.int .u64 (v.m)]), (HO.cells (158 : Nat) [SV.int .u64 (f111o_3 v), SV.int .i64 (f111o_4 v), SV.int .i64 (f111o_5 v), SV.int .u64 (f111o_6 v)]), (HO.cells (158 : Nat) [SV.int .u64 (f111o_3 v), SV.int .i64 (f111o_4 v), SV.int .i64 (f111o_5 v), SV.int .u64 (f111o_6 v)]), (HO.cells (163 : Nat) [(SV.ptr (0:Nat) (0:Nat)), SV.int .u64 (v.w), SV.int .i64 (v.l), (SV.int .i64 (0 : Int))])], [3, 4])))))
noncomputable def f111o (v : V111o) : Tr (Fin th.R) := (Tr.need (f111o_0 v) (Tr.ite (f111o_1 v) (Tr.leaf ((SV.tup [SV.nilp, (SV.agg [(SV.int .u64 (0 : Int)), (SV.int .i64 (0 : Int)), (SV.int .i64 (0 : Int)), (SV.int .u64 (0 : Int))]), (SV.int .i64 (12 : Int))]), [(HO.cells (175 : Nat) [(SV.ptr (1 : Nat) (0:Nat)), SV.int .u64 (v.f), SV.int .i64 (v.c)]), HO.res (v.M)], [])) (Tr.ite (f111o_2 v) (Tr.leaf ((SV.tup [SV.nilp, SV.agg [SV.int .u64 (f111o_3 v), SV.int .i64 (f111o_4 v), SV.int .i64 (f111o_5 v), SV.int .u64 (f111o_6 v)], (SV.int .i64 (20 : Int))]), [(HO.cells (175 : Nat) [(SV.ptr (1 : Nat) (0:Nat)), SV.int .u64 (v.f), SV.int .i64 (v.c)]), HO.res (v.M)], [])) (Tr.leaf ((SV.tup [(SV.ptr (5) (0:Nat)), SV.agg [SV.int .u64 (f111o_3 v), SV.int .i64 (f111o_4 v), SV.int .i64 (f111o_5 v), SV.int .u64 (f111o_6 v)], (SV.int .i64 (0 : Int))]), [(HO.cells (175 : Nat) [(SV.ptr (1 : Nat) (0:Nat)), SV.int .u64 (v.f), SV.int .i64 (v.c)]), HO.res (v.M), (HO.cells (38 : Nat) [SV.int .i64 (v.k), SV.int .u64 (v.a), SV.int .i64 (v.b), SV.int .i64 (v.r), SV.int .i64 (v.g), SV.int .i64 (v.s), SV.int .u64 (v.m)]), (HO.cells (158 : Nat) [SV.int .u64 (f111o_3 v), SV.int .i64 (f111o_4 v), SV.int .i64 (f111o_5 v), SV.int .u64 (f111o_6 v)]), (HO.cells (158 : Nat) [SV.int .u64 (f111o_3 v), SV.int .i64 (f111o_4 v), SV.int .i64 (f111o_5 v), SV.int .u64 (f111o_6 v)]), (HO.cells (163 : Nat) [(SV.ptr (0:Nat) (0:Nat)), SV.int .u64 (v.w), SV.int .i64 (v.l), (SV.int .i64 (0 : Int))])], [])))))
noncomputable def C111o : CF th.R := fnC d111o ofV111o (f111o )
theorem q111o (v : V111o) : (evFn th Try.prog (auto th Try.prog nice112n [] 20) (autoH [] [] [] [] : Hints th) 111) (A111o v) (H111o v) = some (ff111o v) := by kernel_rfl
theorem qg111o (v : V111o) : ((ff111o v).map (setD [])).get = (f111o v).get := by kernel_rfl
theorem qd111o (v : V111o) : allD 2 [] (ff111o v) = true := by kernel_rfl
theorem s111o : Sound Try.prog th 111 (C111o ) := fnC_sound (evFn_sound' (T := th) (P := Try.prog) (tbl := (auto th Try.prog nice112n [] 20)) (auto_sound (nice := nice112n) (us := []) nok112n 20) (H := (autoH [] [] [] [] : Hints th)) (k := 111) (fnLoops (LoopsOk_mem (fun _ => rfl) _ fun _ _ _ e => by cases e))) d111o A111o H111o toV111o (by kernel_rfl) (fun v => by kernel_rfl)
  (fun l v h => by
    unfold ofV111o at h
    split at h
    · cases h; rfl
    · cases h)
  [] (fun v => ⟨ff111o v, q111o v, id, qg111o v, qd111o v⟩)
theorem qdd111o (v : V111o) : (f111o v).get.2.2 = [] := by
  rw [← qg111o, Tr.map_get]; rfl
end Go.Sx.M

namespace Go.Sx.M
open Go Go.Sx Go.Proofs Go.RowKit
set_option maxRecDepth 100000
def pre111o (v : V111o) : Prop := bgE (Sl.mk v.k v.a v.b v.r v.g v.s v.m 0 0 0) v.l = 0
theorem n111o (v : V111o) (h : pre111o v) : (f111o v).ok ∧ (f111o v).get.1 = .tup [.ptr 5 0, .agg [.int .u64 (pNa (Sl.mk v.k v.a v.b v.r v.g v.s v.m 0 0 0)), .int .i64 (pNb (Sl.mk v.k v.a v.b v.r v.g v.s v.m 0 0 0)), .int .i64 (pNg (Sl.mk v.k v.a v.b v.r v.g v.s v.m 0 0 0)), .int .u64 (pNm (Sl.mk v.k v.a v.b v.r v.g v.s v.m 0 0 0))], .int .i64 0] ∧ HOws (f111o v).get.2.1 [HO.cells 175 [.ptr 1 0, .int .u64 (v.f), .int .i64 (v.c)], HO.res v.M, HO.gone, HO.gone, HO.gone, HO.cells 163 [.ptr 0 0, .int .u64 v.w, .int .i64 v.l, .int .i64 0]] := by
  have e1 : f111o_1 v = lbad v.l := rfl
  have e2 : f111o_2 v = !pOk (Sl.mk v.k v.a v.b v.r v.g v.s v.m 0 0 0) := rfl
  obtain ⟨k1, k2, _⟩ := bgE_ok h
  simp only [f111o, Tr.ok, Tr.get, e1, e2, k1, k2]
  refine ⟨⟨fun _ => trivial, (fun e => by cases e), fun _ => ⟨(fun e => by cases e), fun _ => trivial⟩⟩, rfl, ?_⟩
  exact .cons (.inl rfl) (.cons (.inl rfl) (.cons (.inr (.inl rfl)) (.cons (.inr (.inl rfl)) (.cons (.inr (.inl rfl)) (.cons (.inl rfl) .nil)))))
noncomputable def f111on (v : V111o) : Tr (Fin th.R) := .need (pre111o v) (.leaf (.tup [.ptr 5 0, .agg [.int .u64 (pNa (Sl.mk v.k v.a v.b v.r v.g v.s v.m 0 0 0)), .int .i64 (pNb (Sl.mk v.k v.a v.b v.r v.g v.s v.m 0 0 0)), .int .i64 (pNg (Sl.mk v.k v.a v.b v.r v.g v.s v.m 0 0 0)), .int .u64 (pNm (Sl.mk v.k v.a v.b v.r v.g v.s v.m 0 0 0))], .int .i64 0], [.cells 175 [.ptr 1 0, .int .u64 (v.f), .int .i64 (v.c)], .res v.M, .gone, .gone, .gone, .cells 163 [.ptr 0 0, .int .u64 v.w, .int .i64 v.l, .int .i64 0]], []))
theorem s111on : Sound Try.prog th 111 (fnC d111o ofV111o f111on) := fnC_refine s111o fun v h => by
  obtain ⟨hp, _⟩ := h
  obtain ⟨a, b, c⟩ := n111o v hp
  exact ⟨a, b.symm, (qdd111o v).symm, c, by show 2 ≤ 6; decide⟩
noncomputable def nice111on : List (Nat × CF th.R) := (111, lift (fnC d111o ofV111o f111on)) :: nice112n
theorem nok111on : NiceOk Try.prog th nice111on := ⟨lift_sound s111on, nok112n⟩
end Go.Sx.M

