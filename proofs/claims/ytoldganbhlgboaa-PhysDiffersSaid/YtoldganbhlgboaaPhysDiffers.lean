/- PhysDiffers: for every input the law returns true, and each argument reads as it did. No conditions beyond the given statement's own. -/
import Derived.Test.YtoldganbhlgboaaRows
import Derived.Test.YtoldganbhlgboaaC4
import Derived.WalkKit
import Derived.ProofKit
import Derived.OpenShut
namespace Go.Proofs.Ytoldganbhlgboaa.physDiffers
open Go.Sx Go.Sx.M Go.ChangeShapes Go.WideShapes Go.ChangeAt Go.RowKit
set_option linter.unusedVariables false

theorem own : ownKnob Try.prog.godebug = none := by kernel_rfl

set_option maxRecDepth 100000 in
set_option maxHeartbeats 1000000 in
theorem lifted (os : Os) (started : os.Started) (H : Type) (enc : TypeId × Value → H) :
    ReturnsInHanded {} Try.checked os 20 .any (Rows.physDiffersSpec.pre6 enc Try.prog Try.f20 Rows.physDiffersRow.domain false) (Rows.physDiffersSpec.post enc Try.prog Try.f20 false true false false) := by
  refine returnsInHanded_of_change (C := Try.checked) own started (by kernel_rfl) Try.func20
    (ChangeSpec.witness6 (enc := enc) (C := Try.checked) false ⟨#[], #[.slice none 0 0, .slice none 0 0, .int .i64 0], []⟩ 8 (by kernel_rfl) (by kernel_rfl) (by kernel_rfl) (by kernel_rfl)) ?_
  intro W base args ds gs before hval0 hW hcnd _
  have hval : ∀ (j : Nat) t v, Try.f20.params[j]? = some t → args[j]? = some v → Value.okWide Try.prog W .any base t v := hval0
  have hW' := hW
  have hlt : ∀ p, p ∈ before → p.block < W.heap.size := fun p hp => by simpa using hW.lt p hp
  obtain ⟨p, q, hA0, hV, rfl, hfz, hnd⟩ := hW
  have hA : DataW.TrodAll enc Try.prog W 0 (fun _ => true) true Try.f20.params.toList args.toList ds p := hA0
  have hAk := hA
  rw [Try.params20] at hA hval
  obtain ⟨v0, vs0, d0, ds0, p0, q0, hargs, rfl, rfl, h0, r0⟩ := trodAll_cons hA
  obtain ⟨v1, vs1, d1, ds1, p1, q1, rfl, rfl, rfl, h1, r1⟩ := trodAll_cons r0
  obtain ⟨v2, vs2, d2, ds2, p2, q2, rfl, rfl, rfl, h2, r2⟩ := trodAll_cons r1
  obtain ⟨rfl, rfl, rfl⟩ := trodAll_nil r2
  obtain rfl : args = #[v0, v1, v2] := by cases args; simp_all
  obtain ⟨rfl, rfl⟩ := trodVars_none hV
  obtain ⟨aa, ba, ca, ea⟩ := okWide_slice Try.underlying104 (hval 0 104 v0 rfl rfl)
  subst ea
  obtain ⟨la, La, oa, Ea, rela, maxa, hla, wfa⟩ := open_rows (ks := [.int .i64, .int .u64, .int .u64]) Try.underlying104 (by kernel_rfl) (by decide) (by kernel_rfl) rfl h0
  obtain ⟨ab, bb, cb, eb⟩ := okWide_slice Try.underlying104 (hval 1 104 v1 rfl rfl)
  subst eb
  obtain ⟨lb, Lb, ob, Eb, relb, maxb, hlb, wfb⟩ := open_rows (ks := [.int .i64, .int .u64, .int .u64]) Try.underlying104 (by kernel_rfl) (by decide) (by kernel_rfl) rfl h1
  obtain ⟨m, em, _, _, wfm⟩ := open_int Try.underlying3 (hval 2 3 v2 rfl rfl) h2
  subst em
  refine (show Calls Try.prog 20 #[.slice aa ba ca, .slice ab bb cb, .int .i64 m] W (fun e w' => e = .returned (.bool true) ∧ Grown W w') from ?_).mono fun e W' ⟨he, hg⟩ => ?_
  · exact law_of2 s20n (claw20 (V20.mk La Lb m La oa (colI Ea 0) (colI Ea 1) (colI Ea 2) Lb ob (colI Eb 0) (colI Eb 1) (colI Eb 2))) ⟨⟨fun i _ => rfl, fun i _ => rfl⟩, ⟨rfl, rfl, fun j hj => ⟨u64_range (wfa j hj 1 .u64 rfl), u64_range (wfa j hj 2 .u64 rfl)⟩, fun j hj => ⟨u64_range (wfb j hj 1 .u64 rfl), u64_range (wfb j hj 2 .u64 rfl)⟩⟩, trivial⟩ rfl W la lb hla hlb (fun _ => rfl) (fun _ => rfl) ⟨_, _, rfl, (Rel.first rela), ⟨_, _, rfl, (Rel.second relb), ⟨_, _, rfl, rfl, rfl⟩⟩⟩
  · subst he
    simp only [List.append_nil] at hW' hAk hlt
    exact ⟨_, rfl, post_of_same (pa := _) (pv := []) hW' (fun _ _ _ => (trodAll_cons_mk (shut_bool Try.underlying4 _) trodAll_mk0)) (fun sp hsp => TrodAll_stays (by kernel_rfl) hg (readables_spec (by kernel_rfl)) hAk hlt hsp) (fun _ _ => rfl) (List.append_nil _).symm
      (hg.frame _) hg.2.1 (ok_one (by kernel_rfl) rfl (okWide_bool_mk Try.underlying4 _))⟩

theorem ofl_toList {P : Program} {l : List Char} (h : P.initOrder = String.ofList l) : P.initOrder.toList = l := by rw [h, String.toList_ofList]
theorem cut_wr {P : Program} {l : List Char} (h : P.initOrder = String.ofList l) (h2 : (behindMainWord (wordsSigns l)).head? = some ['c', 'u', 't']) : ∃ r, behindMainWord (wordsSigns P.initOrder.toList) = ['c', 'u', 't'] :: r := by
  rw [ofl_toList h]
  cases hl : behindMainWord (wordsSigns l) with
  | nil => rw [hl] at h2; cases h2
  | cons a r => rw [hl] at h2; simp only [List.head?_cons, Option.some.injEq] at h2; subst h2; exact ⟨r, rfl⟩
theorem strip_cut (r : List (List Char)) : stripLifts liftWords (['c', 'u', 't'] :: r) = ([], ['c', 'u', 't'] :: r) := by kernel_rfl
theorem cut_enter {P : Program} (w : ∃ r, behindMainWord (wordsSigns P.initOrder.toList) = ['c', 'u', 't'] :: r) (h1 : P.laysLater = false) (h2 : P.bearsReflect = false) (h3 : P.doorFits [] = true) : P.mayEnter = true := by
  obtain ⟨r, h⟩ := w
  rw [Program.mayEnter.eq_1, h]
  simp only [strip_cut, h1, h2, h3]
  kernel_rfl
theorem cut_make {P : Program} (w : ∃ r, behindMainWord (wordsSigns P.initOrder.toList) = ['c', 'u', 't'] :: r) : P.make = some .cut := by
  obtain ⟨r, h⟩ := w
  rw [Program.make.eq_1, h]
  kernel_rfl
theorem cut_lifts {P : Program} (w : ∃ r, behindMainWord (wordsSigns P.initOrder.toList) = ['c', 'u', 't'] :: r) : P.liftsFinal = false := by
  obtain ⟨r, h⟩ := w
  rw [Program.liftsFinal.eq_1, Program.headLifts.eq_1, h]
  simp only [strip_cut]
  kernel_rfl
theorem joined_of {P : Program} {f : FuncId} {fn : Func} {s : ChangeSpec} {c : OpenClaim} {l : List Char} (h : P.initOrder = String.ofList l) (h2 : (behindMainWord (wordsSigns l)).head? = some ['c', 'u', 't'])
    (e1 : (!P.laysLater && !P.bearsReflect && P.doorFits []) = true)
    (e2 : (c.wf (OpenSpec.ofChange s) && laidOutB P && mapsRowed P && fn.params.all (P.readableRec ·) && namedTie P c.named s.vars && (c.stops == []) && (P.stops == []) && (c.knobs == []) && (P.stopKnobs == [])) = true)
    (e3 : ((c.inPlace == P.inPlace f) && (c.unfollowed == P.unfollowed f) && (c.recurses == P.recurses f) && (c.named == P.varsNamed f)) = true)
    (e4 : ((c.maps == (fn.params.toList ++ s.plain.varTypes P).any (P.mapsRec ·)) && (c.ifaces == (fn.params.toList ++ s.plain.varTypes P).any (P.ifacesRec ·)) && (c.mapsOut == P.mapsAmong fn.resultTypes.toList) &&
      (c.loops == (fn.params.toList ++ s.plain.varTypes P).any (P.loopsFrom ·)) && (c.wideKeys == (fn.params.toList ++ s.plain.varTypes P ++ fn.resultTypes.toList).any (P.wideKeysFrom ·)) &&
      s.vars.all (P.varReadable ·) && fn.resultTypes.all (fun t => P.readableRec t && decide (t < P.types.size)) && (c.ifacesOut == fn.resultTypes.toList.any (P.ifacesRec ·)) && (c.loopsOut == fn.resultTypes.toList.any (P.loopsFrom ·)) && (c.plainKeys == P.plainKeys) && c.shortTexts.isNone && P.stopsHeard) = true)
    (e5 : (!c.lifted && (c.make == .cut) && (c.kinds == (if c.domain.isEmpty then [] else fn.params.toList.map fun t => match P.underlying t with | some (.int k) => some k | _ => none)) && (c.pinned == c.pinnedBy) &&
      (c.veiled == (fn.params.toList ++ s.plain.varTypes P ++ fn.resultTypes.toList).any (P.veiledRec ·)) && c.veiledFits P fn.params.toList (fn.params.toList ++ s.plain.varTypes P ++ fn.resultTypes.toList)) = true) :
    joinedFacts P f fn s c = true := by
  have w := cut_wr h h2
  simp only [Bool.and_eq_true] at e1 e2 e3 e4 e5
  obtain ⟨⟨⟨⟨⟨⟨⟨⟨a1, a2⟩, a3⟩, a4⟩, a5⟩, a6⟩, a7⟩, a8⟩, a9⟩ := e2
  obtain ⟨⟨⟨b1, b2⟩, b3⟩, b4⟩ := e3
  obtain ⟨⟨⟨⟨⟨⟨⟨⟨⟨⟨⟨c1, c2⟩, c3⟩, c4⟩, c5⟩, c6⟩, c7⟩, c8⟩, c9⟩, c10⟩, c11⟩, c12⟩ := e4
  obtain ⟨⟨⟨⟨⟨d1, d2⟩, d3⟩, d4⟩, d5⟩, d6⟩ := e5
  obtain ⟨⟨p1, p2⟩, p3⟩ := e1
  have q1 : P.laysLater = false := by simpa using p1
  have q2 : P.bearsReflect = false := by simpa using p2
  have q3 : c.lifted = false := by simpa using d1
  have q4 : c.make = .cut := by simpa using d2
  have n1 : (c.lifted == P.liftsFinal) = true := by rw [q3, cut_lifts w]; rfl
  have n2 : (P.make == some c.make) = true := by rw [q4, cut_make w]; rfl
  have n3 := cut_enter w q1 q2 p3
  unfold joinedFacts
  simp only [Bool.and_eq_true]
  exact ⟨⟨⟨⟨⟨⟨⟨⟨⟨⟨⟨⟨⟨⟨⟨⟨⟨⟨⟨⟨⟨⟨⟨⟨⟨⟨⟨⟨⟨⟨⟨a1, a2⟩, a3⟩, a4⟩, a5⟩, a6⟩, a7⟩, a8⟩, a9⟩, b1⟩, b2⟩, b3⟩, b4⟩, c1⟩, c2⟩, c3⟩, c4⟩, c5⟩, c6⟩, c7⟩, c8⟩, c9⟩, c10⟩, c11⟩, c12⟩, n3⟩, n1⟩, n2⟩, d3⟩, d4⟩, d5⟩, d6⟩
set_option maxRecDepth 100000 in
theorem io : ∃ l, Try.pinned.checked.prog.initOrder = String.ofList l ∧ (behindMainWord (wordsSigns l)).head? = some ['c', 'u', 't'] := ⟨_, rfl, by kernel_rfl⟩
theorem e1 : (let P := Try.pinned.checked.prog; let f : FuncId := 20; let fn := Try.f20; let s := Rows.physDiffersSpec; let c := Rows.physDiffersRow;
    (!P.laysLater && !P.bearsReflect && P.doorFits [])) = true := by kernel_rfl
theorem e2 : (let P := Try.pinned.checked.prog; let f : FuncId := 20; let fn := Try.f20; let s := Rows.physDiffersSpec; let c := Rows.physDiffersRow;
    (c.wf (OpenSpec.ofChange s) && laidOutB P && mapsRowed P && fn.params.all (P.readableRec ·) && namedTie P c.named s.vars && (c.stops == []) && (P.stops == []) && (c.knobs == []) && (P.stopKnobs == []))) = true := by kernel_rfl
theorem e3 : (let P := Try.pinned.checked.prog; let f : FuncId := 20; let fn := Try.f20; let s := Rows.physDiffersSpec; let c := Rows.physDiffersRow;
    ((c.inPlace == P.inPlace f) && (c.unfollowed == P.unfollowed f) && (c.recurses == P.recurses f) && (c.named == P.varsNamed f))) = true := by kernel_rfl
theorem e4 : (let P := Try.pinned.checked.prog; let f : FuncId := 20; let fn := Try.f20; let s := Rows.physDiffersSpec; let c := Rows.physDiffersRow;
    ((c.maps == (fn.params.toList ++ s.plain.varTypes P).any (P.mapsRec ·)) && (c.ifaces == (fn.params.toList ++ s.plain.varTypes P).any (P.ifacesRec ·)) && (c.mapsOut == P.mapsAmong fn.resultTypes.toList) &&
      (c.loops == (fn.params.toList ++ s.plain.varTypes P).any (P.loopsFrom ·)) && (c.wideKeys == (fn.params.toList ++ s.plain.varTypes P ++ fn.resultTypes.toList).any (P.wideKeysFrom ·)) &&
      s.vars.all (P.varReadable ·) && fn.resultTypes.all (fun t => P.readableRec t && decide (t < P.types.size)) && (c.ifacesOut == fn.resultTypes.toList.any (P.ifacesRec ·)) && (c.loopsOut == fn.resultTypes.toList.any (P.loopsFrom ·)) && (c.plainKeys == P.plainKeys) && c.shortTexts.isNone && P.stopsHeard)) = true := by kernel_rfl
theorem e5 : (let P := Try.pinned.checked.prog; let f : FuncId := 20; let fn := Try.f20; let s := Rows.physDiffersSpec; let c := Rows.physDiffersRow;
    (!c.lifted && (c.make == .cut) && (c.kinds == (if c.domain.isEmpty then [] else fn.params.toList.map fun t => match P.underlying t with | some (.int k) => some k | _ => none)) && (c.pinned == c.pinnedBy) &&
      (c.veiled == (fn.params.toList ++ s.plain.varTypes P ++ fn.resultTypes.toList).any (P.veiledRec ·)) && c.veiledFits P fn.params.toList (fn.params.toList ++ s.plain.varTypes P ++ fn.resultTypes.toList))) = true := by kernel_rfl
theorem joined : joinedFacts Try.pinned.checked.prog 20 Try.f20 Rows.physDiffersSpec Rows.physDiffersRow = true := by
  obtain ⟨l, h1, h2⟩ := io
  exact joined_of h1 h2 e1 e2 e3 e4 e5
theorem over : Rows.physDiffersRow.holds Try.pinned (OpenSpec.ofChange Rows.physDiffersSpec) :=
  OpenClaim.holds_of_wide 20 Try.f20 rfl rfl rfl rfl rfl rfl rfl ⟨rfl, rfl, rfl, rfl, rfl⟩ rfl rfl rfl rfl rfl (by kernel_rfl) Try.func20 joined
    (of_decide_eq_true (by kernel_rfl)) (by unfold Func.isWrapper; first | (rw [if_pos (by decide +kernel)]; kernel_rfl) | (rw [if_neg (by decide +kernel)]; exact ⟨rfl, rfl⟩))
    (fun os started H enc _ => lifted os started H enc)

end Go.Proofs.Ytoldganbhlgboaa.physDiffers
namespace Go.Proofs.Ytoldganbhlgboaa
/-- The statement. -/
theorem physDiffers_holds : Rows.PhysDiffersSaid :=
  physDiffers.over
end Go.Proofs.Ytoldganbhlgboaa
