/- SpanPairs: for every input the law returns true, and each argument reads as it did. No conditions beyond the given statement's own. -/
import Derived.Test.YtdeaddkppjdacaaRows
import Derived.Test.YtdeaddkppjdacaaLS4
import Derived.Test.YtdeaddkppjdacaaLGs
import Derived.WalkKit
import Derived.ProofKit
import Derived.OpenShut
namespace Go.Proofs.Ytdeaddkppjdacaa.spanPairs
open Go.Sx Go.Sx.S Go.ChangeShapes Go.WideShapes Go.ChangeAt Go.RowKit
set_option linter.unusedVariables false

theorem own : ownKnob Try.prog.godebug = none := by kernel_rfl

theorem walk (fx tx : Int) (wx : SpanWf fx tx) (fy ty : Int) (wy : SpanWf fy ty) (q : Int) (wq : (Lit.int .u64 q).wf = true) (w : World) :
    Calls Try.prog 4 #[spanV fx tx, spanV fy ty, .int .u64 q] w fun e w' => e = .returned (.bool true) ∧ Grown w w' := by
  have h1 := u64_range wx.1
  have h2 := u64_range wx.2
  exact law_of s4 (args := [.agg [.int .u64 fx, .int .u64 tx], .agg [.int .u64 fy, .int .u64 ty], .int .u64 q]) rfl rfl trivial
    (congrArg SV.bool (e4_true h1.1 h2.2)) w
    ⟨_, _, rfl, ⟨_, rfl, _, _, rfl, rfl, _, _, rfl, rfl, rfl⟩, _, _, rfl, ⟨_, rfl, _, _, rfl, rfl, _, _, rfl, rfl, rfl⟩, _, _, rfl, rfl, rfl⟩

set_option maxRecDepth 100000 in
theorem lifted (os : Os) (started : os.Started) (H : Type) (enc : TypeId × Value → H) :
    ReturnsInHanded {} Try.checked os 4 .any (Rows.spanPairsSpec.pre6 enc Try.prog Try.f4 Rows.spanPairsRow.domain false) (Rows.spanPairsSpec.post enc Try.prog Try.f4 false true false false) := by
  refine returnsInHanded_of_change (C := Try.checked) own started (by kernel_rfl) Try.func4
    (ChangeSpec.witness6 (enc := enc) (C := Try.checked) false ⟨#[], #[.agg #[.int .u64 0, .int .u64 0], .agg #[.int .u64 0, .int .u64 0], .int .u64 0], []⟩ 8 (by kernel_rfl) (by kernel_rfl) (by kernel_rfl) (by kernel_rfl)) ?_
  intro W base args ds gs before hval0 hW hcnd _
  have hval : ∀ (j : Nat) t v, Try.f4.params[j]? = some t → args[j]? = some v → Value.okWide Try.prog W .any base t v := hval0
  have hW' := hW
  obtain ⟨p, q, hA0, hV, rfl, hfz, hnd⟩ := hW
  have hA : DataW.TrodAll enc Try.prog W 0 (fun _ => true) true Try.f4.params.toList args.toList ds p := hA0
  rw [Try.params4] at hA hval
  obtain ⟨v0, vs0, d0, ds0, p0, q0, hargs, rfl, rfl, h0, r0⟩ := trodAll_cons hA
  obtain ⟨v1, vs1, d1, ds1, p1, q1, rfl, rfl, rfl, h1, r1⟩ := trodAll_cons r0
  obtain ⟨v2, vs2, d2, ds2, p2, q2, rfl, rfl, rfl, h2, r2⟩ := trodAll_cons r1
  obtain ⟨rfl, rfl, rfl⟩ := trodAll_nil r2
  obtain rfl : args = #[v0, v1, v2] := by cases args; simp_all
  obtain ⟨rfl, rfl⟩ := trodVars_none hV
  obtain ⟨fx, tx, rfl, rfl, rfl, wx⟩ := open_span (hval 0 27 v0 rfl rfl) h0
  obtain ⟨fy, ty, rfl, rfl, rfl, wy⟩ := open_span (hval 1 27 v1 rfl rfl) h1
  obtain ⟨q, rfl, rfl, rfl, wq⟩ := open_int Try.underlying25 (hval 2 25 v2 rfl rfl) h2
  clear hA0 hval0
  simp only [List.append_nil] at hW'
  refine (walk fx tx wx fy ty wy q wq W).mono fun e W' ⟨he, hg⟩ => ?_
  subst he
  exact ⟨_, rfl, post_of_same (pa := []) (pv := []) hW' (fun _ _ _ => (trodAll_cons_mk (shut_bool Try.underlying4 _) trodAll_mk0)) (fun sp _ => (trodAll_cons_mk (shut_span wx) (trodAll_cons_mk (shut_span wy) (trodAll_cons_mk (shut_int Try.underlying25 wq) trodAll_mk0)))) (fun _ _ => rfl) rfl
    (hg.frame _) hg.2.1 (ok_one (by kernel_rfl) rfl (okWide_bool_mk Try.underlying4 _))⟩

theorem over : Rows.spanPairsRow.holds Try.pinned (OpenSpec.ofChange Rows.spanPairsSpec) :=
  OpenClaim.holds_of_wide 4 Try.f4 rfl rfl rfl rfl rfl rfl rfl ⟨rfl, rfl, rfl, rfl, rfl⟩ rfl rfl rfl rfl rfl (by kernel_rfl) Try.func4 (by kernel_rfl)
    (of_decide_eq_true (by kernel_rfl)) (by unfold Func.isWrapper; first | (rw [if_pos (by decide +kernel)]; kernel_rfl) | (rw [if_neg (by decide +kernel)]; exact ⟨rfl, rfl⟩))
    (fun os started H enc _ => lifted os started H enc)

end Go.Proofs.Ytdeaddkppjdacaa.spanPairs
namespace Go.Proofs.Ytdeaddkppjdacaa
/-- The statement. -/
theorem spanPairs_holds : Rows.SpanPairsSaid :=
  spanPairs.over
end Go.Proofs.Ytdeaddkppjdacaa
