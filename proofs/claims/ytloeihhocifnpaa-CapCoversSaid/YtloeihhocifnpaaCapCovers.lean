/- CapCovers: for every input the law returns true, and each argument reads as it did. No conditions beyond the given statement's own. -/
import Derived.Test.YtloeihhocifnpaaRows
import Derived.Test.YtloeihhocifnpaaL7
import Derived.Test.YtloeihhocifnpaaLG
import Derived.WalkKit
import Derived.ProofKit
import Derived.OpenShut
namespace Go.Proofs.Ytloeihhocifnpaa.capCovers
open Go.Sx Go.Sx.A Go.ChangeShapes Go.WideShapes Go.ChangeAt Go.RowKit
set_option linter.unusedVariables false

theorem own : ownKnob Try.prog.godebug = none := by kernel_rfl

theorem walk (kc ac bc rc gc sc mc : Int) (wc : CapWf kc ac bc rc gc sc mc) (kd ad bd rd gd sd md : Int) (wd : CapWf kd ad bd rd gd sd md) (w : World) :
    Calls Try.prog 7 #[capV kc ac bc rc gc sc mc, capV kd ad bd rd gd sd md] w fun e w' => e = .returned (.bool true) ∧ Grown w w' := by
  obtain ⟨_, w1, w2, _, w4, _, w6⟩ := wc
  obtain ⟨_, v1, v2, _, v4, _, v6⟩ := wd
  have h1 := u64_range w1
  have h6 := u64_range w6
  have q1 := u64_range v1
  have q6 := u64_range v6
  exact law_of s7 (args := [.agg [.int .i64 kc, .int .u64 ac, .int .i64 bc, .int .i64 rc, .int .i64 gc, .int .i64 sc, .int .u64 mc], .agg [.int .i64 kd, .int .u64 ad, .int .i64 bd, .int .i64 rd, .int .i64 gd, .int .i64 sd, .int .u64 md]]) rfl rfl trivial
    (congrArg SV.bool (f7_true h1.1 h1.2 (i64_range w2) h6.1 h6.2 (i64_range w4).2 q1.1 q1.2 (i64_range v2) q6.1 q6.2 (i64_range v4).2)) w
    ⟨_, _, rfl, ⟨_, rfl, _, _, rfl, rfl, _, _, rfl, rfl, _, _, rfl, rfl, _, _, rfl, rfl, _, _, rfl, rfl, _, _, rfl, rfl, _, _, rfl, rfl, rfl⟩,
     _, _, rfl, ⟨_, rfl, _, _, rfl, rfl, _, _, rfl, rfl, _, _, rfl, rfl, _, _, rfl, rfl, _, _, rfl, rfl, _, _, rfl, rfl, _, _, rfl, rfl, rfl⟩, rfl⟩

set_option maxRecDepth 100000 in
theorem lifted (os : Os) (started : os.Started) (H : Type) (enc : TypeId × Value → H) :
    ReturnsInHanded {} Try.checked os 7 .any (Rows.capCoversSpec.pre6 enc Try.prog Try.f7 Rows.capCoversRow.domain false) (Rows.capCoversSpec.post enc Try.prog Try.f7 false true false false) := by
  refine returnsInHanded_of_change (C := Try.checked) own started (by kernel_rfl) Try.func7
    (ChangeSpec.witness6 (enc := enc) (C := Try.checked) false ⟨#[], #[.agg #[.int .i64 0, .int .u64 0, .int .i64 0, .int .i64 0, .int .i64 0, .int .i64 0, .int .u64 0], .agg #[.int .i64 0, .int .u64 0, .int .i64 0, .int .i64 0, .int .i64 0, .int .i64 0, .int .u64 0]], []⟩ 8 (by kernel_rfl) (by kernel_rfl) (by kernel_rfl) (by kernel_rfl)) ?_
  intro W base args ds gs before hval0 hW hcnd _
  have hval : ∀ (j : Nat) t v, Try.f7.params[j]? = some t → args[j]? = some v → Value.okWide Try.prog W .any base t v := hval0
  have hW' := hW
  obtain ⟨p, q, hA0, hV, rfl, hfz, hnd⟩ := hW
  have hA : DataW.TrodAll enc Try.prog W 0 (fun _ => true) true Try.f7.params.toList args.toList ds p := hA0
  rw [Try.params7] at hA hval
  obtain ⟨v0, vs0, d0, ds0, p0, q0, hargs, rfl, rfl, h0, r0⟩ := trodAll_cons hA
  obtain ⟨v1, vs1, d1, ds1, p1, q1, rfl, rfl, rfl, h1, r1⟩ := trodAll_cons r0
  obtain ⟨rfl, rfl, rfl⟩ := trodAll_nil r1
  obtain rfl : args = #[v0, v1] := by cases args; simp_all
  obtain ⟨rfl, rfl⟩ := trodVars_none hV
  obtain ⟨kc, ac, bc, rc, gc, sc, mc, rfl, rfl, rfl, wc⟩ := open_cap (hval 0 24 v0 rfl rfl) h0
  obtain ⟨kd, ad, bd, rd, gd, sd, md, rfl, rfl, rfl, wd⟩ := open_cap (hval 1 24 v1 rfl rfl) h1
  clear hA0 hval0
  simp only [List.append_nil] at hW'
  refine (walk kc ac bc rc gc sc mc wc kd ad bd rd gd sd md wd W).mono fun e W' ⟨he, hg⟩ => ?_
  subst he
  exact ⟨_, rfl, post_of_same (pa := []) (pv := []) hW' (fun _ _ _ => (trodAll_cons_mk (shut_bool Try.underlying4 _) trodAll_mk0)) (fun sp _ => (trodAll_cons_mk (shut_cap wc) (trodAll_cons_mk (shut_cap wd) trodAll_mk0))) (fun _ _ => rfl) rfl
    (hg.frame _) hg.2.1 (ok_one (by kernel_rfl) rfl (okWide_bool_mk Try.underlying4 _))⟩

theorem over : Rows.capCoversRow.holds Try.pinned (OpenSpec.ofChange Rows.capCoversSpec) :=
  OpenClaim.holds_of_wide 7 Try.f7 rfl rfl rfl rfl rfl rfl rfl ⟨rfl, rfl, rfl, rfl, rfl⟩ rfl rfl rfl rfl rfl (by kernel_rfl) Try.func7 (by kernel_rfl)
    (of_decide_eq_true (by kernel_rfl)) (by unfold Func.isWrapper; first | (rw [if_pos (by decide +kernel)]; kernel_rfl) | (rw [if_neg (by decide +kernel)]; exact ⟨rfl, rfl⟩))
    (fun os started H enc _ => lifted os started H enc)

end Go.Proofs.Ytloeihhocifnpaa.capCovers
namespace Go.Proofs.Ytloeihhocifnpaa
/-- The statement. -/
theorem capCovers_holds : Rows.CapCoversSaid :=
  capCovers.over
end Go.Proofs.Ytloeihhocifnpaa
