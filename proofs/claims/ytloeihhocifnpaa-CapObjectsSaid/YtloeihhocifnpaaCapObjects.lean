/- CapObjects: for every input the law returns true, and each argument reads as it did. No conditions beyond the given statement's own. -/
import Derived.Test.YtloeihhocifnpaaRows
import Derived.Test.YtloeihhocifnpaaL9
import Derived.Test.YtloeihhocifnpaaLG
import Derived.WalkKit
import Derived.ProofKit
import Derived.OpenShut
namespace Go.Proofs.Ytloeihhocifnpaa.capObjects
open Go.Sx Go.Sx.A Go.ChangeShapes Go.WideShapes Go.ChangeAt Go.RowKit
set_option linter.unusedVariables false

theorem own : ownKnob Try.prog.godebug = none := by kernel_rfl

theorem walk (kc ac bc rc gc sc mc : Int) (wc : CapWf kc ac bc rc gc sc mc) (w : World) :
    Calls Try.prog 9 #[capV kc ac bc rc gc sc mc] w fun e w' => e = .returned (.bool true) ∧ Grown w w' := by
  obtain ⟨_, w1, w2, _, w4, _, w6⟩ := wc
  have h1 := u64_range w1
  have h2 := i64_range w2
  have h4 := (i64_range w4).2
  have h6 := u64_range w6
  have hr : RelL [] [SV.agg [.int .i64 kc, .int .u64 ac, .int .i64 bc, .int .i64 rc, .int .i64 gc, .int .i64 sc, .int .u64 mc]] #[capV kc ac bc rc gc sc mc].toList :=
    ⟨_, _, rfl, ⟨_, rfl, _, _, rfl, rfl, _, _, rfl, rfl, _, _, rfl, rfl, _, _, rfl, rfl, _, _, rfl, rfl, _, _, rfl, rfl, _, _, rfl, rfl, rfl⟩, rfl⟩
  cases p0 : f35_0 kc ac bc rc gc sc mc with
  | true => exact law_of s9x0 (args := [.agg [.int .i64 kc, .int .u64 ac, .int .i64 bc, .int .i64 rc, .int .i64 gc, .int .i64 sc, .int .u64 mc]]) rfl rfl ⟨fun _ => p0, trivial⟩ (congrArg SV.bool (t9x0 h1 h2 h4 h6 p0)) w hr
  | false => cases p1 : f35_1 kc ac bc rc gc sc mc with
    | true => exact law_of s9x1 (args := [.agg [.int .i64 kc, .int .u64 ac, .int .i64 bc, .int .i64 rc, .int .i64 gc, .int .i64 sc, .int .u64 mc]]) rfl rfl ⟨fun _ => ⟨p0, p1⟩, fun _ _ _ _ => by have := (kinds_bits (right_of h1 h2 h4 h6 p0)).1 (by simpa [f35_1] using p1); omega, trivial⟩ (congrArg SV.bool (t9x1 h1 h2 h4 h6 p0 p1)) w hr
    | false => cases p3 : f35_3 kc ac bc rc gc sc mc with
      | true => exact law_of s9x2 (args := [.agg [.int .i64 kc, .int .u64 ac, .int .i64 bc, .int .i64 rc, .int .i64 gc, .int .i64 sc, .int .u64 mc]]) rfl rfl ⟨fun _ => ⟨p0, p1, p3⟩, trivial⟩ (congrArg SV.bool (t9x2 h1 h2 h4 h6 p0 p1 p3)) w hr
      | false => cases p4 : f35_4 kc ac bc rc gc sc mc with
        | true => exact law_of s9x3 (args := [.agg [.int .i64 kc, .int .u64 ac, .int .i64 bc, .int .i64 rc, .int .i64 gc, .int .i64 sc, .int .u64 mc]]) rfl rfl ⟨fun _ => ⟨p0, p1, p3, p4⟩, trivial⟩ (congrArg SV.bool (t9x3 h1 h2 h4 h6 p0 p1 p3 p4 guard_zero)) w hr
        | false => cases p5 : f35_5 kc ac bc rc gc sc mc with
          | true => exact law_of s9x4 (args := [.agg [.int .i64 kc, .int .u64 ac, .int .i64 bc, .int .i64 rc, .int .i64 gc, .int .i64 sc, .int .u64 mc]]) rfl rfl ⟨fun _ => ⟨p0, p1, p3, p4, p5⟩, trivial⟩ (congrArg SV.bool (t9x4 h1 h2 h4 h6 p0 p1 p3 p4 p5)) w hr
          | false => cases p7 : f35_7 kc ac bc rc gc sc mc with
            | true => exact law_of s9x5 (args := [.agg [.int .i64 kc, .int .u64 ac, .int .i64 bc, .int .i64 rc, .int .i64 gc, .int .i64 sc, .int .u64 mc]]) rfl rfl ⟨fun _ => ⟨p0, p1, p3, p4, p5, p7⟩, trivial⟩ (congrArg SV.bool (t9x5 h1 h2 h4 h6 p0 p1 p3 p4 p5 p7 rights_zero)) w hr
            | false => exact law_of s9x6 (args := [.agg [.int .i64 kc, .int .u64 ac, .int .i64 bc, .int .i64 rc, .int .i64 gc, .int .i64 sc, .int .u64 mc]]) rfl rfl ⟨fun _ => ⟨p0, p1, p3, p4, p5, p7⟩, trivial⟩ (congrArg SV.bool (t9x6 h1 h2 h4 h6 p0 p1 p3 p4 p5 p7)) w hr

set_option maxRecDepth 100000 in
theorem lifted (os : Os) (started : os.Started) (H : Type) (enc : TypeId × Value → H) :
    ReturnsInHanded {} Try.checked os 9 .any (Rows.capObjectsSpec.pre6 enc Try.prog Try.f9 Rows.capObjectsRow.domain false) (Rows.capObjectsSpec.post enc Try.prog Try.f9 false true false false) := by
  refine returnsInHanded_of_change (C := Try.checked) own started (by kernel_rfl) Try.func9
    (ChangeSpec.witness6 (enc := enc) (C := Try.checked) false ⟨#[], #[.agg #[.int .i64 0, .int .u64 0, .int .i64 0, .int .i64 0, .int .i64 0, .int .i64 0, .int .u64 0]], []⟩ 8 (by kernel_rfl) (by kernel_rfl) (by kernel_rfl) (by kernel_rfl)) ?_
  intro W base args ds gs before hval0 hW hcnd _
  have hval : ∀ (j : Nat) t v, Try.f9.params[j]? = some t → args[j]? = some v → Value.okWide Try.prog W .any base t v := hval0
  have hW' := hW
  obtain ⟨p, q, hA0, hV, rfl, hfz, hnd⟩ := hW
  have hA : DataW.TrodAll enc Try.prog W 0 (fun _ => true) true Try.f9.params.toList args.toList ds p := hA0
  rw [Try.params9] at hA hval
  obtain ⟨v0, vs0, d0, ds0, p0, q0, hargs, rfl, rfl, h0, r0⟩ := trodAll_cons hA
  obtain ⟨rfl, rfl, rfl⟩ := trodAll_nil r0
  obtain rfl : args = #[v0] := by cases args; simp_all
  obtain ⟨rfl, rfl⟩ := trodVars_none hV
  obtain ⟨kc, ac, bc, rc, gc, sc, mc, rfl, rfl, rfl, wc⟩ := open_cap (hval 0 24 v0 rfl rfl) h0
  clear hA0 hval0
  simp only [List.append_nil] at hW'
  refine (walk kc ac bc rc gc sc mc wc W).mono fun e W' ⟨he, hg⟩ => ?_
  subst he
  exact ⟨_, rfl, post_of_same (pa := []) (pv := []) hW' (fun _ _ _ => (trodAll_cons_mk (shut_bool Try.underlying4 _) trodAll_mk0)) (fun sp _ => (trodAll_cons_mk (shut_cap wc) trodAll_mk0)) (fun _ _ => rfl) rfl
    (hg.frame _) hg.2.1 (ok_one (by kernel_rfl) rfl (okWide_bool_mk Try.underlying4 _))⟩

theorem over : Rows.capObjectsRow.holds Try.pinned (OpenSpec.ofChange Rows.capObjectsSpec) :=
  OpenClaim.holds_of_wide 9 Try.f9 rfl rfl rfl rfl rfl rfl rfl ⟨rfl, rfl, rfl, rfl, rfl⟩ rfl rfl rfl rfl rfl (by kernel_rfl) Try.func9 (by kernel_rfl)
    (of_decide_eq_true (by kernel_rfl)) (by unfold Func.isWrapper; first | (rw [if_pos (by decide +kernel)]; kernel_rfl) | (rw [if_neg (by decide +kernel)]; exact ⟨rfl, rfl⟩))
    (fun os started H enc _ => lifted os started H enc)

end Go.Proofs.Ytloeihhocifnpaa.capObjects
namespace Go.Proofs.Ytloeihhocifnpaa
/-- The statement. -/
theorem capObjects_holds : Rows.CapObjectsSaid :=
  capObjects.over
end Go.Proofs.Ytloeihhocifnpaa
