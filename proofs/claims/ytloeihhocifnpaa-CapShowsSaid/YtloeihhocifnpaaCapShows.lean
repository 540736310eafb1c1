/- CapShows: for every input the law returns true, and each argument reads as it did. No conditions beyond the given statement's own. -/
import Derived.Test.YtloeihhocifnpaaRows
import Derived.Test.YtloeihhocifnpaaL11b
import Derived.Test.YtloeihhocifnpaaLG
import Derived.WalkKit
import Derived.ProofKit
import Derived.OpenShut
namespace Go.Proofs.Ytloeihhocifnpaa.capShows
open Go.Sx Go.Sx.A Go.ChangeShapes Go.WideShapes Go.ChangeAt Go.RowKit
set_option linter.unusedVariables false

theorem own : ownKnob Try.prog.godebug = none := by kernel_rfl

theorem walk (kc ac bc rc gc sc mc : Int) (wc : CapWf kc ac bc rc gc sc mc) (w : World) :
    Calls Try.prog 11 #[capV kc ac bc rc gc sc mc] w fun e w' => e = .returned (.bool true) ∧ Grown w w' := by
  obtain ⟨_, w1, w2, _, w4, w5, w6⟩ := wc
  have h1 := u64_range w1
  have h2 := i64_range w2
  have h4 := (i64_range w4).2
  have h5 := (i64_range w5).2
  have h6 := u64_range w6
  obtain ⟨p0, p1, p2, p3, p4, p5⟩ := f40_needs (k := kc) (b := bc) (r := rc) (g := gc) (s := sc) h1 h6
  obtain ⟨n6, n7, n8, n9, n10, n11, n12, n13, n14, n15, n16, n17, n18, n19, n20, n21, n22, n23⟩ := f11_needs (k := kc) (b := bc) (r := rc) (g := gc) (s := sc) h1 h6
  exact law_of s11 (args := [.agg [.int .i64 kc, .int .u64 ac, .int .i64 bc, .int .i64 rc, .int .i64 gc, .int .i64 sc, .int .u64 mc]]) rfl rfl
    ⟨fun _ => p0, fun _ => p1, fun _ => p2, fun _ => p3, fun _ => p4, fun _ => p5, n6, n7, n8, n9, n10, n11, n12, n13, n14, n15, n16, n17, n18, n19, n20, n21, n22, n23, trivial⟩
    (congrArg SV.bool (f11_true h1 h2 h4 h5 h6)) w
    ⟨_, _, rfl, ⟨_, rfl, _, _, rfl, rfl, _, _, rfl, rfl, _, _, rfl, rfl, _, _, rfl, rfl, _, _, rfl, rfl, _, _, rfl, rfl, _, _, rfl, rfl, rfl⟩, rfl⟩

set_option maxRecDepth 100000 in
theorem lifted (os : Os) (started : os.Started) (H : Type) (enc : TypeId × Value → H) :
    ReturnsInHanded {} Try.checked os 11 .any (Rows.capShowsSpec.pre6 enc Try.prog Try.f11 Rows.capShowsRow.domain false) (Rows.capShowsSpec.post enc Try.prog Try.f11 false true false false) := by
  refine returnsInHanded_of_change (C := Try.checked) own started (by kernel_rfl) Try.func11
    (ChangeSpec.witness6 (enc := enc) (C := Try.checked) false ⟨#[], #[.agg #[.int .i64 0, .int .u64 0, .int .i64 0, .int .i64 0, .int .i64 0, .int .i64 0, .int .u64 0]], []⟩ 8 (by kernel_rfl) (by kernel_rfl) (by kernel_rfl) (by kernel_rfl)) ?_
  intro W base args ds gs before hval0 hW hcnd _
  have hval : ∀ (j : Nat) t v, Try.f11.params[j]? = some t → args[j]? = some v → Value.okWide Try.prog W .any base t v := hval0
  have hW' := hW
  obtain ⟨p, q, hA0, hV, rfl, hfz, hnd⟩ := hW
  have hA : DataW.TrodAll enc Try.prog W 0 (fun _ => true) true Try.f11.params.toList args.toList ds p := hA0
  rw [Try.params11] at hA hval
  obtain ⟨v0, vs0, d0, ds0, p0, q0, hargs, rfl, rfl, h0, r0⟩ := trodAll_cons hA
  obtain ⟨rfl, rfl, rfl⟩ := trodAll_nil r0
  obtain rfl : args = #[v0] := by cases args; simp_all
  obtain ⟨rfl, rfl⟩ := trodVars_none hV
  obtain ⟨kc, ac, bc, rc, gc, sc, mc, rfl, rfl, rfl, wc⟩ := open_cap (hval 0 24 v0 rfl rfl) h0
  clear hA0 hval0
  simp only [List.append_nil] at hW'
  refine (walk kc ac bc rc gc sc mc wc W).mono fun e W' ⟨he, hg⟩ => ?_
  subst he
  exact ⟨_, rfl, post_of_same (pa := []) (pv := []) hW' (fun _ _ _ => (trodAll_cons_mk (shut_bool Try.underlying4 _) trodAll_mk0)) (fun sp _ => (trodAll_cons_mk (shut_cap wc) trodAll_mk0)) (fun _ _ => rfl) rfl
    (hg.frame _) hg.2.1 (ok_one (by kernel_rfl) rfl (okWide_bool_mk Try.underlying4 _))⟩

theorem over : Rows.capShowsRow.holds Try.pinned (OpenSpec.ofChange Rows.capShowsSpec) :=
  OpenClaim.holds_of_wide 11 Try.f11 rfl rfl rfl rfl rfl rfl rfl ⟨rfl, rfl, rfl, rfl, rfl⟩ rfl rfl rfl rfl rfl (by kernel_rfl) Try.func11 (by kernel_rfl)
    (of_decide_eq_true (by kernel_rfl)) (by unfold Func.isWrapper; first | (rw [if_pos (by decide +kernel)]; kernel_rfl) | (rw [if_neg (by decide +kernel)]; exact ⟨rfl, rfl⟩))
    (fun os started H enc _ => lifted os started H enc)

end Go.Proofs.Ytloeihhocifnpaa.capShows
namespace Go.Proofs.Ytloeihhocifnpaa
/-- The statement. -/
theorem capShows_holds : Rows.CapShowsSaid :=
  capShows.over
end Go.Proofs.Ytloeihhocifnpaa
