/- Plain facts on a law of this seat; plain Lean, no program in sight. Conditions: the numbers lie in their kinds' ranges where a theorem says so. -/
import Derived.Test.YtdeaddkppjdacaaK1
import Derived.ChangeSame
import Derived.ProofKit
import Derived.OpenShut
import Derived.WideShapes
set_option linter.unusedVariables false
set_option linter.unusedSimpArgs false
namespace Go.Sx.S
open Go Go.Sx Go.Proofs Go.RowKit Go.ChangeShapes Go.WideShapes Go.ChangeAt

theorem cells27 : Try.prog.cellsOf 27 = 2 := by kernel_rfl
theorem cells25 : Try.prog.cellsOf 25 = 1 := by kernel_rfl
def spanV (f t : Int) : Value := .agg #[.int .u64 f, .int .u64 t]
def spanD {H : Type} (f t : Int) : DataW H := .agg [.lit (.int .u64 f), .lit (.int .u64 t)]
def SpanWf (f t : Int) : Prop := (Lit.int .u64 f).wf = true ∧ (Lit.int .u64 t).wf = true
theorem u64_range {n : Int} (h : (Lit.int .u64 n).wf = true) : 0 ≤ n ∧ n < 18446744073709551616 := by
  simp only [Lit.wf, Bool.and_eq_true, decide_eq_true_eq] at h
  have e1 : IntKind.u64.min = 0 := by decide +kernel
  have e2 : IntKind.u64.max = 18446744073709551615 := by decide +kernel
  rw [e1, e2] at h
  omega
set_option maxRecDepth 100000 in
/-- A span among the arguments: its two numbers. -/
theorem open_span {H : Type} {enc : TypeId × Value → H} {W : World} {base b0 : Nat} {sp : Nat → Bool} {held : Bool} {re : Reach} {v : Value} {d : DataW H} {ps : List MemPlace}
    (hval : Value.okWide Try.prog W re b0 27 v) (hd : DataW.Trod enc Try.prog W base sp held 27 v d ps) :
    ∃ f t, v = spanV f t ∧ d = spanD f t ∧ ps = [] ∧ SpanWf f t := by
  obtain ⟨cs, rfl, hsz⟩ := okWide_struct Try.underlying27 hval
  rw [cells27] at hsz
  obtain ⟨l⟩ := cs
  match l, hsz with
  | [c0, c1], _ =>
  obtain ⟨fuel, hf⟩ := hd
  obtain ⟨xs, n, _, hx, _, hlen, hfs⟩ := DataW.trod_struct Try.underlying27 hf
  match xs, hlen with
  | [y0, y1], _ =>
  have h0 := hfs 0 _ rfl
  have h1 := hfs 1 _ rfl
  obtain ⟨f, e0, rfl, w0⟩ := DataW.trod_int Try.underlying25 h0
  obtain ⟨t, e1, rfl, w1⟩ := DataW.trod_int Try.underlying25 h1
  simp [Value.cells, cells25] at e0 e1
  subst e0 e1
  simp only [Prod.mk.injEq] at hx
  obtain ⟨rfl, rfl⟩ := hx
  exact ⟨f, t, rfl, rfl, rfl, w0, w1⟩
theorem shut_span {H : Type} {enc : TypeId × Value → H} {W : World} {base : Nat} {sp : Nat → Bool} {held : Bool} {f t : Int} (hw : SpanWf f t) :
    DataW.Trod enc Try.prog W base sp held 27 (spanV f t) (spanD f t) [] := by
  obtain ⟨w0, w1⟩ := hw
  have i25 : ∀ n, (Lit.int .u64 n).wf = true → DataW.trod enc Try.prog W base sp held 1 25 [.int .u64 n] = some (.lit (.int .u64 n), []) := fun n w => trod_int_mk 0 Try.underlying25 w
  refine ⟨2, ?_⟩
  have := trod_struct_mk (enc := enc) (w := W) (base := base) (spare := sp) (held := held) (n := 1) (cs := [.int .u64 f, .int .u64 t])
    (xs := [(.lit (.int .u64 f), []), (.lit (.int .u64 t), [])]) Try.underlying27 (by simp [cells27])
    (by simp [cells25, i25 _ w0, i25 _ w1])
  simpa [Value.cells, spanV, spanD] using this
end Go.Sx.S
