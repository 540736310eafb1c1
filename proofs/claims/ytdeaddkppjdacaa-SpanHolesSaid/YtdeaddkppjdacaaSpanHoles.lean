/- SpanHoles: for every input the law returns true, and each argument reads as it did. No conditions beyond the given statement's own. -/
import Derived.Test.YtdeaddkppjdacaaRows
import Derived.Test.YtdeaddkppjdacaaC5
import Derived.WalkKit
import Derived.ProofKit
import Derived.OpenShut
namespace Go.Proofs.Ytdeaddkppjdacaa.spanHoles
open Go.Sx Go.Sx.S Go.ChangeShapes Go.WideShapes Go.ChangeAt Go.RowKit
set_option linter.unusedVariables false

theorem own : ownKnob Try.prog.godebug = none := by kernel_rfl

set_option maxRecDepth 100000 in
set_option maxHeartbeats 1000000 in
theorem lifted (os : Os) (started : os.Started) (H : Type) (enc : TypeId × Value → H) :
    ReturnsInHanded {} Try.checked os 7 .any (Rows.spanHolesSpec.pre6 enc Try.prog Try.f7 Rows.spanHolesRow.domain false) (Rows.spanHolesSpec.post enc Try.prog Try.f7 false true false false) := by
  refine returnsInHanded_of_change (C := Try.checked) own started (by kernel_rfl) Try.func7
    (ChangeSpec.witness6 (enc := enc) (C := Try.checked) false ⟨#[], #[.slice none 0 0, .agg #[.int .u64 0, .int .u64 0]], []⟩ 8 (by kernel_rfl) (by kernel_rfl) (by kernel_rfl) (by kernel_rfl)) ?_
  intro W base args ds gs before hval0 hW hcnd _
  have hval : ∀ (j : Nat) t v, Try.f7.params[j]? = some t → args[j]? = some v → Value.okWide Try.prog W .any base t v := hval0
  have hW' := hW
  have hlt : ∀ p, p ∈ before → p.block < W.heap.size := fun p hp => by simpa using hW.lt p hp
  obtain ⟨p, q, hA0, hV, rfl, hfz, hnd⟩ := hW
  have hA : DataW.TrodAll enc Try.prog W 0 (fun _ => true) true Try.f7.params.toList args.toList ds p := hA0
  have hAk := hA
  rw [Try.params7] at hA hval
  obtain ⟨v0, vs0, d0, ds0, p0, q0, hargs, rfl, rfl, h0, r0⟩ := trodAll_cons hA
  obtain ⟨v1, vs1, d1, ds1, p1, q1, rfl, rfl, rfl, h1, r1⟩ := trodAll_cons r0
  obtain ⟨rfl, rfl, rfl⟩ := trodAll_nil r1
  obtain rfl : args = #[v0, v1] := by cases args; simp_all
  obtain ⟨rfl, rfl⟩ := trodVars_none hV
  obtain ⟨al, bl, cl, el⟩ := okWide_slice Try.underlying22 (hval 0 22 v0 rfl rfl)
  subst el
  obtain ⟨ll, Ll, ol, El, rell, maxl, hll, wfl⟩ := open_rows (ks := [.int .u64, .int .u64]) Try.underlying22 (by kernel_rfl) (by decide) (by kernel_rfl) rfl h0
  obtain ⟨Ew, relw, wfw⟩ := open_aggK (ks := [.int .u64, .int .u64]) Try.underlying27 (by kernel_rfl) (hval 1 27 v1 rfl rfl) h1
  refine (show Calls Try.prog 7 #[.slice al bl cl, v1] W (fun e w' => e = .returned (.bool true) ∧ Grown W w') from ?_).mono fun e W' ⟨he, hg⟩ => ?_
  · exact law_ofS s7n (claw7 (V7.mk Ll (colI Ew 0 0) (colI Ew 1 0) Ll ol (colI El 0) (colI El 1))) ⟨fun i _ => rfl, ⟨Nat.le_refl _, fun i hi => ⟨(u64r (wfl i hi 0 .u64 rfl)).1, (u64r (wfl i hi 1 .u64 rfl)).2⟩, (u64r (wfw 0 .u64 rfl)).1, (u64r (wfw 1 .u64 rfl)).2⟩, trivial⟩ rfl (fun h => absurd (show 0 ∈ ([] : List Nat) from h) List.not_mem_nil) W ll hll ⟨_, _, rfl, rell, ⟨_, _, rfl, (relw _), rfl⟩⟩
  · subst he
    simp only [List.append_nil] at hW' hAk hlt
    exact ⟨_, rfl, post_of_same (pa := _) (pv := []) hW' (fun _ _ _ => (trodAll_cons_mk (shut_bool Try.underlying4 _) trodAll_mk0)) (fun sp hsp => TrodAll_stays (by kernel_rfl) hg (readables_spec (by kernel_rfl)) hAk hlt hsp) (fun _ _ => rfl) (List.append_nil _).symm
      (hg.frame _) hg.2.1 (ok_one (by kernel_rfl) rfl (okWide_bool_mk Try.underlying4 _))⟩

theorem over : Rows.spanHolesRow.holds Try.pinned (OpenSpec.ofChange Rows.spanHolesSpec) :=
  OpenClaim.holds_of_wide 7 Try.f7 rfl rfl rfl rfl rfl rfl rfl ⟨rfl, rfl, rfl, rfl, rfl⟩ rfl rfl rfl rfl rfl (by kernel_rfl) Try.func7 (by kernel_rfl)
    (of_decide_eq_true (by kernel_rfl)) (by unfold Func.isWrapper; first | (rw [if_pos (by decide +kernel)]; kernel_rfl) | (rw [if_neg (by decide +kernel)]; exact ⟨rfl, rfl⟩))
    (fun os started H enc _ => lifted os started H enc)

end Go.Proofs.Ytdeaddkppjdacaa.spanHoles
namespace Go.Proofs.Ytdeaddkppjdacaa
/-- The statement. -/
theorem spanHoles_holds : Rows.SpanHolesSaid :=
  spanHoles.over
end Go.Proofs.Ytdeaddkppjdacaa
