/- A capability among the arguments, opened and shut; plain Lean, no program in sight. Conditions: the numbers lie in their kinds' ranges where a theorem says so. -/
import Derived.Test.YtloeihhocifnpaaK1
import Derived.ChangeSame
import Derived.ProofKit
import Derived.OpenShut
import Derived.WideShapes
set_option linter.unusedVariables false
set_option linter.unusedSimpArgs false
namespace Go.Sx.A
open Go Go.Sx Go.Proofs Go.RowKit Go.ChangeShapes Go.WideShapes Go.ChangeAt

theorem cells24 : Try.prog.cellsOf 24 = 7 := by kernel_rfl
theorem cells3 : Try.prog.cellsOf 3 = 1 := by kernel_rfl
theorem cells22 : Try.prog.cellsOf 22 = 1 := by kernel_rfl
def capV (k a b r g s m : Int) : Value := .agg #[.int .i64 k, .int .u64 a, .int .i64 b, .int .i64 r, .int .i64 g, .int .i64 s, .int .u64 m]
def capD {H : Type} (k a b r g s m : Int) : DataW H := .agg [.lit (.int .i64 k), .lit (.int .u64 a), .lit (.int .i64 b), .lit (.int .i64 r), .lit (.int .i64 g), .lit (.int .i64 s), .lit (.int .u64 m)]
def CapWf (k a b r g s m : Int) : Prop := (Lit.int .i64 k).wf = true ∧ (Lit.int .u64 a).wf = true ∧ (Lit.int .i64 b).wf = true ∧ (Lit.int .i64 r).wf = true ∧ (Lit.int .i64 g).wf = true ∧ (Lit.int .i64 s).wf = true ∧ (Lit.int .u64 m).wf = true
set_option maxRecDepth 100000 in
/-- A capability among the arguments: its seven numbers. -/
theorem open_cap {H : Type} {enc : TypeId × Value → H} {W : World} {base b0 : Nat} {sp : Nat → Bool} {held : Bool} {re : Reach} {v : Value} {d : DataW H} {ps : List MemPlace}
    (hval : Value.okWide Try.prog W re b0 24 v) (hd : DataW.Trod enc Try.prog W base sp held 24 v d ps) :
    ∃ k a b r g s m, v = capV k a b r g s m ∧ d = capD k a b r g s m ∧ ps = [] ∧ CapWf k a b r g s m := by
  obtain ⟨cs, rfl, hsz⟩ := okWide_struct Try.underlying24 hval
  rw [cells24] at hsz
  obtain ⟨l⟩ := cs
  match l, hsz with
  | [c0, c1, c2, c3, c4, c5, c6], _ =>
  obtain ⟨fuel, hf⟩ := hd
  obtain ⟨xs, n, _, hx, _, hlen, hfs⟩ := DataW.trod_struct Try.underlying24 hf
  match xs, hlen with
  | [y0, y1, y2, y3, y4, y5, y6], _ =>
  have h0 := hfs 0 _ rfl
  have h1 := hfs 1 _ rfl
  have h2 := hfs 2 _ rfl
  have h3 := hfs 3 _ rfl
  have h4 := hfs 4 _ rfl
  have h5 := hfs 5 _ rfl
  have h6 := hfs 6 _ rfl
  obtain ⟨k, e0, rfl, w0⟩ := DataW.trod_int Try.underlying3 h0
  obtain ⟨a, e1, rfl, w1⟩ := DataW.trod_int Try.underlying22 h1
  obtain ⟨b, e2, rfl, w2⟩ := DataW.trod_int Try.underlying3 h2
  obtain ⟨r, e3, rfl, w3⟩ := DataW.trod_int Try.underlying3 h3
  obtain ⟨g, e4, rfl, w4⟩ := DataW.trod_int Try.underlying3 h4
  obtain ⟨s, e5, rfl, w5⟩ := DataW.trod_int Try.underlying3 h5
  obtain ⟨m, e6, rfl, w6⟩ := DataW.trod_int Try.underlying22 h6
  simp [Value.cells, cells3, cells22] at e0 e1 e2 e3 e4 e5 e6
  subst e0 e1 e2 e3 e4 e5 e6
  simp only [Prod.mk.injEq] at hx
  obtain ⟨rfl, rfl⟩ := hx
  exact ⟨k, a, b, r, g, s, m, rfl, rfl, rfl, w0, w1, w2, w3, w4, w5, w6⟩
theorem shut_cap {H : Type} {enc : TypeId × Value → H} {W : World} {base : Nat} {sp : Nat → Bool} {held : Bool} {k a b r g s m : Int} (hw : CapWf k a b r g s m) :
    DataW.Trod enc Try.prog W base sp held 24 (capV k a b r g s m) (capD k a b r g s m) [] := by
  obtain ⟨w0, w1, w2, w3, w4, w5, w6⟩ := hw
  have i3 : ∀ n, (Lit.int .i64 n).wf = true → DataW.trod enc Try.prog W base sp held 1 3 [.int .i64 n] = some (.lit (.int .i64 n), []) := fun n w => trod_int_mk 0 Try.underlying3 w
  have i22 : ∀ n, (Lit.int .u64 n).wf = true → DataW.trod enc Try.prog W base sp held 1 22 [.int .u64 n] = some (.lit (.int .u64 n), []) := fun n w => trod_int_mk 0 Try.underlying22 w
  refine ⟨2, ?_⟩
  have := trod_struct_mk (enc := enc) (w := W) (base := base) (spare := sp) (held := held) (n := 1) (cs := [.int .i64 k, .int .u64 a, .int .i64 b, .int .i64 r, .int .i64 g, .int .i64 s, .int .u64 m])
    (xs := [(.lit (.int .i64 k), []), (.lit (.int .u64 a), []), (.lit (.int .i64 b), []), (.lit (.int .i64 r), []), (.lit (.int .i64 g), []), (.lit (.int .i64 s), []), (.lit (.int .u64 m), [])]) Try.underlying24 (by simp [cells24])
    (by simp [cells3, cells22, i3 _ w0, i22 _ w1, i3 _ w2, i3 _ w3, i3 _ w4, i3 _ w5, i22 _ w6])
  simpa [Value.cells, capV, capD] using this
end Go.Sx.A
