/- Contracts of more functions of this seat, each by the executor and the kernel. Their conditions stand in each. -/
import Derived.Test.YtloeihhocifnpaaK1
set_option linter.unusedVariables false
set_option linter.unusedSimpArgs false
namespace Go.Sx.A
open Go Go.Sx Go.Proofs Go.RowKit
def us28 : List Un := [⟨59, [(2, 6)], [6]⟩, ⟨15, [(5, 7)], [15]⟩]
def f28_0 (k : Int) (a : Int) (b : Int) (r : Int) (g : Int) (s : Int) (m : Int) (k2 : Int) (a2 : Int) (b2 : Int) (r2 : Int) (g2 : Int) (s2 : Int) (m2 : Int) : Bool := Go.Sx.cnd (Go.Sx.cnd (Go.Sx.cnd (Decidable.decide (Go.Sx.A.f31_0 k a b r g s m ≥ (0 : Int))) (Decidable.decide (Go.Sx.A.f31_0 k2 a2 b2 r2 g2 s2 m2 ≥ (0 : Int))) Bool.false) (Decidable.decide (a ≤ a2)) Bool.false) (Decidable.decide (Go.Sx.A.f32_0 k2 a2 b2 r2 g2 s2 m2 ≤ Go.Sx.A.f32_0 k a b r g s m)) Bool.false
def f28 : List SV → Option (Tr SV)
  | [.agg [.int .i64 k, .int .u64 a, .int .i64 b, .int .i64 r, .int .i64 g, .int .i64 s, .int .u64 m], .agg [.int .i64 k2, .int .u64 a2, .int .i64 b2, .int .i64 r2, .int .i64 g2, .int .i64 s2, .int .u64 m2]] => some (Go.Sx.Tr.leaf (Go.Sx.SV.bool (f28_0 k a b r g s m k2 a2 b2 r2 g2 s2 m2)))
  | _ => none
theorem s28 : Sound Try.prog th 28 (pureC f28) := pure_auto (us := us28) (nice := nice8) nok8 20 fun args t h => by
  unfold f28 at h
  split at h
  · cases h; kernel_rfl
  · cases h
def nice28 : List (Nat × CF th.R) := (28, pureC f28) :: nice8
theorem nok28 : NiceOk Try.prog th nice28 := ⟨s28, nok8⟩
end Go.Sx.A

namespace Go.Sx.A
open Go Go.Sx Go.Proofs Go.RowKit
def us29 : List Un := [⟨59, [(2, 6)], [6]⟩, ⟨15, [(5, 7)], [15]⟩]
def f29_0 (k : Int) (a : Int) (b : Int) (r : Int) (g : Int) (s : Int) (m : Int) (k2 : Int) (a2 : Int) (b2 : Int) (r2 : Int) (g2 : Int) (s2 : Int) (m2 : Int) : Bool := Go.Sx.cnd (Go.Sx.cnd (Go.Sx.cnd (Go.Sx.cnd (Go.Sx.cnd (Go.Sx.A.f17_1 k a b r g s m) (Go.Sx.A.f17_1 k2 a2 b2 r2 g2 s2 m2) Bool.false) (k == k2) Bool.false) (a == a2) Bool.false) (Go.Sx.A.f31_0 k a b r g s m == Go.Sx.A.f31_0 k2 a2 b2 r2 g2 s2 m2) Bool.false) (Decidable.decide (Go.Sx.A.f31_0 k a b r g s m ≥ (0 : Int))) Bool.false
def f29 : List SV → Option (Tr SV)
  | [.agg [.int .i64 k, .int .u64 a, .int .i64 b, .int .i64 r, .int .i64 g, .int .i64 s, .int .u64 m], .agg [.int .i64 k2, .int .u64 a2, .int .i64 b2, .int .i64 r2, .int .i64 g2, .int .i64 s2, .int .u64 m2]] => some (Go.Sx.Tr.leaf (Go.Sx.SV.bool (f29_0 k a b r g s m k2 a2 b2 r2 g2 s2 m2)))
  | _ => none
theorem s29 : Sound Try.prog th 29 (pureC f29) := pure_auto (us := us29) (nice := nice28) nok28 20 fun args t h => by
  unfold f29 at h
  split at h
  · cases h; kernel_rfl
  · cases h
def nice29 : List (Nat × CF th.R) := (29, pureC f29) :: nice28
theorem nok29 : NiceOk Try.prog th nice29 := ⟨s29, nok28⟩
end Go.Sx.A

namespace Go.Sx.A
open Go Go.Sx Go.Proofs Go.RowKit
def us7 : List Un := [⟨59, [(2, 6)], [6]⟩, ⟨15, [(5, 7)], [15]⟩]
def f7_0 (k : Int) (a : Int) (b : Int) (r : Int) (g : Int) (s : Int) (m : Int) (k2 : Int) (a2 : Int) (b2 : Int) (r2 : Int) (g2 : Int) (s2 : Int) (m2 : Int) : Bool := Go.Sx.cnd (Go.Sx.cnd (Go.Sx.cnd (!Go.Sx.A.f28_0 k a b r g s m k2 a2 b2 r2 g2 s2 m2 == Go.Sx.cnd (Go.Sx.cnd (Go.Sx.cnd (Go.Sx.cnd (Go.Sx.A.f27_2 k a b r g s m) (Go.Sx.A.f27_2 k2 a2 b2 r2 g2 s2 m2) Bool.false) (Decidable.decide (a2 ≥ a)) Bool.false) (Decidable.decide (Go.IntKind.u64.wrap (a2 - a) ≤ Go.Sx.A.f27_1 k a b r g s m)) Bool.false) (Decidable.decide (Go.Sx.A.f27_1 k2 a2 b2 r2 g2 s2 m2 ≤ Go.IntKind.u64.wrap (Go.Sx.A.f27_1 k a b r g s m - Go.IntKind.u64.wrap (a2 - a)))) Bool.false) Bool.true !Go.Sx.A.f28_0 k a b r g s m k a b r g s m == Go.Sx.A.f27_2 k a b r g s m) Bool.true !Go.Sx.A.f29_0 k a b r g s m k a b r g s m == Go.Sx.A.f27_2 k a b r g s m) Bool.false (Go.Sx.A.f29_0 k a b r g s m k2 a2 b2 r2 g2 s2 m2 == Go.Sx.cnd (Go.Sx.cnd (Go.Sx.cnd (Go.Sx.cnd (Go.Sx.cnd (Go.Sx.cnd (Go.Sx.A.f27_2 k a b r g s m) (Go.Sx.A.f27_2 k2 a2 b2 r2 g2 s2 m2) Bool.false) (Decidable.decide (a2 ≥ a)) Bool.false) (Decidable.decide (Go.IntKind.u64.wrap (a2 - a) ≤ Go.Sx.A.f27_1 k a b r g s m)) Bool.false) (Decidable.decide (Go.Sx.A.f27_1 k2 a2 b2 r2 g2 s2 m2 ≤ Go.IntKind.u64.wrap (Go.Sx.A.f27_1 k a b r g s m - Go.IntKind.u64.wrap (a2 - a)))) Bool.false) (Go.Sx.A.f28_0 k2 a2 b2 r2 g2 s2 m2 k a b r g s m) Bool.false) (k == k2) Bool.false)
def f7 : List SV → Option (Tr SV)
  | [.agg [.int .i64 k, .int .u64 a, .int .i64 b, .int .i64 r, .int .i64 g, .int .i64 s, .int .u64 m], .agg [.int .i64 k2, .int .u64 a2, .int .i64 b2, .int .i64 r2, .int .i64 g2, .int .i64 s2, .int .u64 m2]] => some (Go.Sx.Tr.leaf (Go.Sx.SV.bool (f7_0 k a b r g s m k2 a2 b2 r2 g2 s2 m2)))
  | _ => none
theorem s7 : Sound Try.prog th 7 (pureC f7) := pure_auto (us := us7) (nice := nice29) nok29 20 fun args t h => by
  unfold f7 at h
  split at h
  · cases h; kernel_rfl
  · cases h
def nice7 : List (Nat × CF th.R) := (7, pureC f7) :: nice29
theorem nok7 : NiceOk Try.prog th nice7 := ⟨s7, nok29⟩
end Go.Sx.A

namespace Go.Sx.A
open Go Go.Sx Go.Proofs Go.RowKit
def us35 : List Un := [⟨59, [(2, 6)], [6]⟩, ⟨15, [(5, 7)], [15]⟩]
def f35_0 (k : Int) (a : Int) (b : Int) (r : Int) (g : Int) (s : Int) (m : Int) : Bool := Go.Sx.cnd (!Go.Sx.A.f17_1 k a b r g s m) Bool.true (Decidable.decide (Go.Sx.A.f31_0 k a b r g s m < (0 : Int)))
def f35_1 (k : Int) (a : Int) (b : Int) (r : Int) (g : Int) (s : Int) (m : Int) : Bool := k == (1 : Int)
def f35_2 (k : Int) (a : Int) (b : Int) (r : Int) (g : Int) (s : Int) (m : Int) : Int := Go.IntKind.u64.wrap (Go.Sx.A.f58_1 b + (1 : Int))
def f35_3 (k : Int) (a : Int) (b : Int) (r : Int) (g : Int) (s : Int) (m : Int) : Bool := k == (2 : Int)
def f35_4 (k : Int) (a : Int) (b : Int) (r : Int) (g : Int) (s : Int) (m : Int) : Bool := k == (10 : Int)
def f35_5 (k : Int) (a : Int) (b : Int) (r : Int) (g : Int) (s : Int) (m : Int) : Bool := k == (3 : Int)
def f35_6 (k : Int) (a : Int) (b : Int) (r : Int) (g : Int) (s : Int) (m : Int) : Int := Go.Sx.A.f59_0 b
def f35_7 (k : Int) (a : Int) (b : Int) (r : Int) (g : Int) (s : Int) (m : Int) : Bool := Go.Sx.cnd (k == (4 : Int)) (s != (0 : Int)) Bool.false
def f35 : List SV → Option (Tr SV)
  | [.agg [.int .i64 k, .int .u64 a, .int .i64 b, .int .i64 r, .int .i64 g, .int .i64 s, .int .u64 m]] => some (Go.Sx.Tr.ite (f35_0 k a b r g s m) (Go.Sx.Tr.leaf (Go.Sx.SV.nili)) (Go.Sx.Tr.ite (f35_1 k a b r g s m) (Go.Sx.Tr.leaf (Go.Sx.SV.ifc ((54 : Nat)) (Go.Sx.SV.agg (List.cons (Go.Sx.SV.int (Go.IntKind.u64) (a)) (List.cons (Go.Sx.SV.int (Go.IntKind.u64) (f35_2 k a b r g s m)) (List.cons (Go.Sx.SV.int (Go.IntKind.u64) (m)) (List.nil))))))) (Go.Sx.Tr.ite (f35_3 k a b r g s m) (Go.Sx.Tr.leaf (Go.Sx.SV.ifc ((57 : Nat)) (Go.Sx.SV.agg (List.cons (Go.Sx.SV.int (Go.IntKind.u64) (a)) (List.cons (Go.Sx.SV.int (Go.IntKind.i64) (b)) (List.cons (Go.Sx.SV.int (Go.IntKind.i64) (g)) (List.cons (Go.Sx.SV.int (Go.IntKind.u64) (m)) (List.nil)))))))) (Go.Sx.Tr.ite (f35_4 k a b r g s m) (Go.Sx.Tr.leaf (Go.Sx.SV.ifc ((57 : Nat)) (Go.Sx.SV.agg (List.cons (Go.Sx.SV.int (Go.IntKind.u64) (a)) (List.cons (Go.Sx.SV.int (Go.IntKind.i64) (b)) (List.cons (Go.Sx.SV.int (Go.IntKind.i64) ((0 : Int))) (List.cons (Go.Sx.SV.int (Go.IntKind.u64) ((0 : Int))) (List.nil)))))))) (Go.Sx.Tr.ite (f35_5 k a b r g s m) (Go.Sx.Tr.leaf (Go.Sx.SV.ifc ((60 : Nat)) (Go.Sx.SV.agg (List.cons (Go.Sx.SV.int (Go.IntKind.u64) (a)) (List.cons (Go.Sx.SV.int (Go.IntKind.i64) (f35_6 k a b r g s m)) (List.cons (Go.Sx.SV.int (Go.IntKind.i64) (r)) (List.cons (Go.Sx.SV.int (Go.IntKind.i64) (s)) (List.cons (Go.Sx.SV.int (Go.IntKind.u64) (m)) (List.nil))))))))) (Go.Sx.Tr.ite (f35_7 k a b r g s m) (Go.Sx.Tr.leaf (Go.Sx.SV.ifc ((60 : Nat)) (Go.Sx.SV.agg (List.cons (Go.Sx.SV.int (Go.IntKind.u64) (a)) (List.cons (Go.Sx.SV.int (Go.IntKind.i64) (g)) (List.cons (Go.Sx.SV.int (Go.IntKind.i64) ((0 : Int))) (List.cons (Go.Sx.SV.int (Go.IntKind.i64) (s)) (List.cons (Go.Sx.SV.int (Go.IntKind.u64) (m)) (List.nil))))))))) (Go.Sx.Tr.leaf (Go.Sx.SV.ifc ((64 : Nat)) (Go.Sx.SV.agg (List.cons (Go.Sx.SV.int (Go.IntKind.u64) (a)) (List.nil)))))))))))
  | _ => none
theorem s35 : Sound Try.prog th 35 (pureC f35) := pure_auto (us := us35) (nice := nice7) nok7 20 fun args t h => by
  unfold f35 at h
  split at h
  · cases h; kernel_rfl
  · cases h
def g35x0 : List SV → Option (Tr SV)
  | [.agg [.int .i64 k, .int .u64 a, .int .i64 b, .int .i64 r, .int .i64 g, .int .i64 s, .int .u64 m]] => some (.need (f35_0 k a b r g s m = true) (.leaf (.nili)))
  | _ => none
theorem sg35x0 : Sound Try.prog th 35 (pureC g35x0) := pureC_sound s35 fun args t hs h hok => by
  unfold g35x0 at h
  split at h
  · cases h
    obtain ⟨h0, _⟩ := hok
    refine ⟨_, by unfold pureC f35; rw [hs], ?_, ?_⟩
    · simp [Tr.map, Tr.ok, h0]
    · simp [Tr.map, Tr.get, h0]
  · cases h
def g35x1 : List SV → Option (Tr SV)
  | [.agg [.int .i64 k, .int .u64 a, .int .i64 b, .int .i64 r, .int .i64 g, .int .i64 s, .int .u64 m]] => some (.need (f35_0 k a b r g s m = false ∧ f35_1 k a b r g s m = true) (.leaf (.ifc 54 (.agg [.int .u64 a, .int .u64 (f35_2 k a b r g s m), .int .u64 m]))))
  | _ => none
theorem sg35x1 : Sound Try.prog th 35 (pureC g35x1) := pureC_sound s35 fun args t hs h hok => by
  unfold g35x1 at h
  split at h
  · cases h
    obtain ⟨⟨h0, h1⟩, _⟩ := hok
    refine ⟨_, by unfold pureC f35; rw [hs], ?_, ?_⟩
    · simp [Tr.map, Tr.ok, h0, h1]
    · simp [Tr.map, Tr.get, h0, h1]
  · cases h
def g35x2 : List SV → Option (Tr SV)
  | [.agg [.int .i64 k, .int .u64 a, .int .i64 b, .int .i64 r, .int .i64 g, .int .i64 s, .int .u64 m]] => some (.need (f35_0 k a b r g s m = false ∧ f35_1 k a b r g s m = false ∧ f35_3 k a b r g s m = true) (.leaf (.ifc 57 (.agg [.int .u64 a, .int .i64 b, .int .i64 g, .int .u64 m]))))
  | _ => none
theorem sg35x2 : Sound Try.prog th 35 (pureC g35x2) := pureC_sound s35 fun args t hs h hok => by
  unfold g35x2 at h
  split at h
  · cases h
    obtain ⟨⟨h0, h1, h2⟩, _⟩ := hok
    refine ⟨_, by unfold pureC f35; rw [hs], ?_, ?_⟩
    · simp [Tr.map, Tr.ok, h0, h1, h2]
    · simp [Tr.map, Tr.get, h0, h1, h2]
  · cases h
def g35x3 : List SV → Option (Tr SV)
  | [.agg [.int .i64 k, .int .u64 a, .int .i64 b, .int .i64 r, .int .i64 g, .int .i64 s, .int .u64 m]] => some (.need (f35_0 k a b r g s m = false ∧ f35_1 k a b r g s m = false ∧ f35_3 k a b r g s m = false ∧ f35_4 k a b r g s m = true) (.leaf (.ifc 57 (.agg [.int .u64 a, .int .i64 b, .int .i64 0, .int .u64 0]))))
  | _ => none
theorem sg35x3 : Sound Try.prog th 35 (pureC g35x3) := pureC_sound s35 fun args t hs h hok => by
  unfold g35x3 at h
  split at h
  · cases h
    obtain ⟨⟨h0, h1, h2, h3⟩, _⟩ := hok
    refine ⟨_, by unfold pureC f35; rw [hs], ?_, ?_⟩
    · simp [Tr.map, Tr.ok, h0, h1, h2, h3]
    · simp [Tr.map, Tr.get, h0, h1, h2, h3]
  · cases h
def g35x4 : List SV → Option (Tr SV)
  | [.agg [.int .i64 k, .int .u64 a, .int .i64 b, .int .i64 r, .int .i64 g, .int .i64 s, .int .u64 m]] => some (.need (f35_0 k a b r g s m = false ∧ f35_1 k a b r g s m = false ∧ f35_3 k a b r g s m = false ∧ f35_4 k a b r g s m = false ∧ f35_5 k a b r g s m = true) (.leaf (.ifc 60 (.agg [.int .u64 a, .int .i64 (f35_6 k a b r g s m), .int .i64 r, .int .i64 s, .int .u64 m]))))
  | _ => none
theorem sg35x4 : Sound Try.prog th 35 (pureC g35x4) := pureC_sound s35 fun args t hs h hok => by
  unfold g35x4 at h
  split at h
  · cases h
    obtain ⟨⟨h0, h1, h2, h3, h4⟩, _⟩ := hok
    refine ⟨_, by unfold pureC f35; rw [hs], ?_, ?_⟩
    · simp [Tr.map, Tr.ok, h0, h1, h2, h3, h4]
    · simp [Tr.map, Tr.get, h0, h1, h2, h3, h4]
  · cases h
def g35x5 : List SV → Option (Tr SV)
  | [.agg [.int .i64 k, .int .u64 a, .int .i64 b, .int .i64 r, .int .i64 g, .int .i64 s, .int .u64 m]] => some (.need (f35_0 k a b r g s m = false ∧ f35_1 k a b r g s m = false ∧ f35_3 k a b r g s m = false ∧ f35_4 k a b r g s m = false ∧ f35_5 k a b r g s m = false ∧ f35_7 k a b r g s m = true) (.leaf (.ifc 60 (.agg [.int .u64 a, .int .i64 g, .int .i64 0, .int .i64 s, .int .u64 m]))))
  | _ => none
theorem sg35x5 : Sound Try.prog th 35 (pureC g35x5) := pureC_sound s35 fun args t hs h hok => by
  unfold g35x5 at h
  split at h
  · cases h
    obtain ⟨⟨h0, h1, h2, h3, h4, h5⟩, _⟩ := hok
    refine ⟨_, by unfold pureC f35; rw [hs], ?_, ?_⟩
    · simp [Tr.map, Tr.ok, h0, h1, h2, h3, h4, h5]
    · simp [Tr.map, Tr.get, h0, h1, h2, h3, h4, h5]
  · cases h
def g35x6 : List SV → Option (Tr SV)
  | [.agg [.int .i64 k, .int .u64 a, .int .i64 b, .int .i64 r, .int .i64 g, .int .i64 s, .int .u64 m]] => some (.need (f35_0 k a b r g s m = false ∧ f35_1 k a b r g s m = false ∧ f35_3 k a b r g s m = false ∧ f35_4 k a b r g s m = false ∧ f35_5 k a b r g s m = false ∧ f35_7 k a b r g s m = false) (.leaf (.ifc 64 (.agg [.int .u64 a]))))
  | _ => none
theorem sg35x6 : Sound Try.prog th 35 (pureC g35x6) := pureC_sound s35 fun args t hs h hok => by
  unfold g35x6 at h
  split at h
  · cases h
    obtain ⟨⟨h0, h1, h2, h3, h4, h5⟩, _⟩ := hok
    refine ⟨_, by unfold pureC f35; rw [hs], ?_, ?_⟩
    · simp [Tr.map, Tr.ok, h0, h1, h2, h3, h4, h5]
    · simp [Tr.map, Tr.get, h0, h1, h2, h3, h4, h5]
  · cases h
def nice35 : List (Nat × CF th.R) := (35, pureC f35) :: nice7
theorem nok35 : NiceOk Try.prog th nice35 := ⟨s35, nok7⟩
end Go.Sx.A

namespace Go.Sx.A
open Go Go.Sx Go.Proofs Go.RowKit
def us9x0 : List Un := [⟨59, [(2, 6)], [6]⟩, ⟨15, [(5, 7)], [15]⟩]
def f9x0_0 (k : Int) (a : Int) (b : Int) (r : Int) (g : Int) (s : Int) (m : Int) : Prop := Bool.false = Bool.false → Go.Sx.A.f35_0 k a b r g s m = Bool.true
def f9x0_1 (k : Int) (a : Int) (b : Int) (r : Int) (g : Int) (s : Int) (m : Int) : Prop := Bool.false = Bool.false → Go.Sx.cnd (Go.Sx.cnd (!Go.Sx.A.f16_2 k a b r g s m) Bool.true (k == (0 : Int))) Bool.true (k == (6 : Int)) = Bool.false → (k == (1 : Int)) = Bool.true → Bool.false = Bool.true → b ≤ (4611686018427387904 : Int)
def f9x0_2 (k : Int) (a : Int) (b : Int) (r : Int) (g : Int) (s : Int) (m : Int) : Bool := Go.Sx.cnd (Go.Sx.cnd (Go.Sx.cnd (!Go.Sx.A.f16_2 k a b r g s m) Bool.true (k == (0 : Int))) Bool.true (k == (6 : Int))) Bool.true (Go.Sx.cnd (k == (1 : Int)) Bool.false (Go.Sx.cnd (Go.Sx.cnd (k == (2 : Int)) Bool.true (k == (10 : Int))) Bool.false (Go.Sx.cnd (Go.Sx.cnd (k == (3 : Int)) Bool.true (Go.Sx.cnd (k == (4 : Int)) (s != (0 : Int)) Bool.false)) Bool.false Bool.false)))
theorem n9x0_1 (k : Int) (a : Int) (b : Int) (r : Int) (g : Int) (s : Int) (m : Int) : f9x0_1 k a b r g s m := by
  simp only [f9x0_1, cnd_eq]
  grind (splits := 40)
def f9x0 : List SV → Option (Tr SV)
  | [.agg [.int .i64 k, .int .u64 a, .int .i64 b, .int .i64 r, .int .i64 g, .int .i64 s, .int .u64 m]] => some (Go.Sx.Tr.need (f9x0_0 k a b r g s m) (Go.Sx.Tr.leaf (Go.Sx.SV.bool (f9x0_2 k a b r g s m))))
  | _ => none
theorem s9x0 : Sound Try.prog th 9 (pureC f9x0) := pure_auto2 (us := us9x0) (nice := ((35, pureC g35x0) :: nice35)) ⟨sg35x0, nok35⟩ 20 fun args t h => by
  unfold f9x0 at h
  split at h
  · rename_i k a b r g s m
    cases h
    refine ⟨(Go.Sx.Tr.need (f9x0_0 k a b r g s m) (Go.Sx.Tr.need (f9x0_1 k a b r g s m) (Go.Sx.Tr.leaf (Go.Sx.SV.bool (f9x0_2 k a b r g s m))))), by kernel_rfl, fun ok => ?_, rfl⟩
    first
    | (simp only [Tr.ok, n9x0_1, true_and, and_true, forall_const, implies_true]; done)
    | (simp only [Tr.ok, n9x0_1, true_and, and_true, forall_const, implies_true]; done)
    | (simpa only [Tr.ok, n9x0_1, true_and, and_true, forall_const, implies_true] using ok; done)
    | (simp only [Tr.ok, n9x0_1, f9x0_0, true_and, and_true, forall_const, implies_true] at ok ⊢; grind)
  · cases h
def nice9x0 : List (Nat × CF th.R) := nice35
theorem nok9x0 : NiceOk Try.prog th nice9x0 := nok35
end Go.Sx.A

namespace Go.Sx.A
open Go Go.Sx Go.Proofs Go.RowKit
def us9x1 : List Un := [⟨59, [(2, 6)], [6]⟩, ⟨15, [(5, 7)], [15]⟩]
def f9x1_0 (k : Int) (a : Int) (b : Int) (r : Int) (g : Int) (s : Int) (m : Int) : Prop := Bool.false = Bool.false → Go.Sx.A.f35_0 k a b r g s m = Bool.false ∧ Go.Sx.A.f35_1 k a b r g s m = Bool.true
def f9x1_1 (k : Int) (a : Int) (b : Int) (r : Int) (g : Int) (s : Int) (m : Int) : Prop := Bool.false = Bool.false → Go.Sx.cnd (Go.Sx.cnd (!Go.Sx.A.f16_2 k a b r g s m) Bool.true (k == (0 : Int))) Bool.true (k == (6 : Int)) = Bool.false → (k == (1 : Int)) = Bool.true → Bool.true = Bool.true → b ≤ (4611686018427387904 : Int)
def f9x1_2 (k : Int) (a : Int) (b : Int) (r : Int) (g : Int) (s : Int) (m : Int) : Bool := Go.Sx.cnd (Go.Sx.cnd (Go.Sx.cnd (!Go.Sx.A.f16_2 k a b r g s m) Bool.true (k == (0 : Int))) Bool.true (k == (6 : Int))) Bool.false (Go.Sx.cnd (k == (1 : Int)) (a == a && (Go.Sx.A.f35_2 k a b r g s m == Go.Sx.A.p26 b.toNat && (m == m && Bool.true))) (Go.Sx.cnd (Go.Sx.cnd (k == (2 : Int)) Bool.true (k == (10 : Int))) Bool.false (Go.Sx.cnd (Go.Sx.cnd (k == (3 : Int)) Bool.true (Go.Sx.cnd (k == (4 : Int)) (s != (0 : Int)) Bool.false)) Bool.false Bool.false)))
def f9x1 : List SV → Option (Tr SV)
  | [.agg [.int .i64 k, .int .u64 a, .int .i64 b, .int .i64 r, .int .i64 g, .int .i64 s, .int .u64 m]] => some (Go.Sx.Tr.need (f9x1_0 k a b r g s m) (Go.Sx.Tr.need (f9x1_1 k a b r g s m) (Go.Sx.Tr.leaf (Go.Sx.SV.bool (f9x1_2 k a b r g s m)))))
  | _ => none
theorem s9x1 : Sound Try.prog th 9 (pureC f9x1) := pure_auto (us := us9x1) (nice := ((35, pureC g35x1) :: nice9x0)) ⟨sg35x1, nok9x0⟩ 20 fun args t h => by
  unfold f9x1 at h
  split at h
  · cases h; kernel_rfl
  · cases h
def nice9x1 : List (Nat × CF th.R) := nice9x0
theorem nok9x1 : NiceOk Try.prog th nice9x1 := nok9x0
end Go.Sx.A

namespace Go.Sx.A
open Go Go.Sx Go.Proofs Go.RowKit
def us9x2 : List Un := [⟨59, [(2, 6)], [6]⟩, ⟨15, [(5, 7)], [15]⟩]
def f9x2_0 (k : Int) (a : Int) (b : Int) (r : Int) (g : Int) (s : Int) (m : Int) : Prop := Bool.false = Bool.false → Go.Sx.A.f35_0 k a b r g s m = Bool.false ∧ Go.Sx.A.f35_1 k a b r g s m = Bool.false ∧ Go.Sx.A.f35_3 k a b r g s m = Bool.true
def f9x2_1 (k : Int) (a : Int) (b : Int) (r : Int) (g : Int) (s : Int) (m : Int) : Prop := Bool.false = Bool.false → Go.Sx.cnd (Go.Sx.cnd (!Go.Sx.A.f16_2 k a b r g s m) Bool.true (k == (0 : Int))) Bool.true (k == (6 : Int)) = Bool.false → (k == (1 : Int)) = Bool.true → Bool.false = Bool.true → b ≤ (4611686018427387904 : Int)
def f9x2_2 (k : Int) (a : Int) (b : Int) (r : Int) (g : Int) (s : Int) (m : Int) : Bool := Go.Sx.cnd (Go.Sx.cnd (Go.Sx.cnd (!Go.Sx.A.f16_2 k a b r g s m) Bool.true (k == (0 : Int))) Bool.true (k == (6 : Int))) Bool.false (Go.Sx.cnd (k == (1 : Int)) Bool.false (Go.Sx.cnd (Go.Sx.cnd (k == (2 : Int)) Bool.true (k == (10 : Int))) (a == Go.Sx.cnd (k == (2 : Int)) a a && (b == Go.Sx.cnd (k == (2 : Int)) b b && (g == Go.Sx.cnd (k == (2 : Int)) g g && (m == Go.Sx.cnd (k == (2 : Int)) m (0 : Int) && Bool.true)))) (Go.Sx.cnd (Go.Sx.cnd (k == (3 : Int)) Bool.true (Go.Sx.cnd (k == (4 : Int)) (s != (0 : Int)) Bool.false)) Bool.false Bool.false)))
theorem n9x2_1 (k : Int) (a : Int) (b : Int) (r : Int) (g : Int) (s : Int) (m : Int) : f9x2_1 k a b r g s m := by
  simp only [f9x2_1, cnd_eq]
  grind (splits := 40)
def f9x2 : List SV → Option (Tr SV)
  | [.agg [.int .i64 k, .int .u64 a, .int .i64 b, .int .i64 r, .int .i64 g, .int .i64 s, .int .u64 m]] => some (Go.Sx.Tr.need (f9x2_0 k a b r g s m) (Go.Sx.Tr.leaf (Go.Sx.SV.bool (f9x2_2 k a b r g s m))))
  | _ => none
theorem s9x2 : Sound Try.prog th 9 (pureC f9x2) := pure_auto2 (us := us9x2) (nice := ((35, pureC g35x2) :: nice9x1)) ⟨sg35x2, nok9x1⟩ 20 fun args t h => by
  unfold f9x2 at h
  split at h
  · rename_i k a b r g s m
    cases h
    refine ⟨(Go.Sx.Tr.need (f9x2_0 k a b r g s m) (Go.Sx.Tr.need (f9x2_1 k a b r g s m) (Go.Sx.Tr.leaf (Go.Sx.SV.bool (f9x2_2 k a b r g s m))))), by kernel_rfl, fun ok => ?_, rfl⟩
    first
    | (simp only [Tr.ok, n9x2_1, true_and, and_true, forall_const, implies_true]; done)
    | (simp only [Tr.ok, n9x2_1, true_and, and_true, forall_const, implies_true]; done)
    | (simpa only [Tr.ok, n9x2_1, true_and, and_true, forall_const, implies_true] using ok; done)
    | (simp only [Tr.ok, n9x2_1, f9x2_0, true_and, and_true, forall_const, implies_true] at ok ⊢; grind)
  · cases h
def nice9x2 : List (Nat × CF th.R) := nice9x1
theorem nok9x2 : NiceOk Try.prog th nice9x2 := nok9x1
end Go.Sx.A

namespace Go.Sx.A
open Go Go.Sx Go.Proofs Go.RowKit
def us9x3 : List Un := [⟨59, [(2, 6)], [6]⟩, ⟨15, [(5, 7)], [15]⟩]
def f9x3_0 (k : Int) (a : Int) (b : Int) (r : Int) (g : Int) (s : Int) (m : Int) : Prop := Bool.false = Bool.false → Go.Sx.A.f35_0 k a b r g s m = Bool.false ∧ Go.Sx.A.f35_1 k a b r g s m = Bool.false ∧ Go.Sx.A.f35_3 k a b r g s m = Bool.false ∧ Go.Sx.A.f35_4 k a b r g s m = Bool.true
def f9x3_1 (k : Int) (a : Int) (b : Int) (r : Int) (g : Int) (s : Int) (m : Int) : Prop := Bool.false = Bool.false → Go.Sx.cnd (Go.Sx.cnd (!Go.Sx.A.f16_2 k a b r g s m) Bool.true (k == (0 : Int))) Bool.true (k == (6 : Int)) = Bool.false → (k == (1 : Int)) = Bool.true → Bool.false = Bool.true → b ≤ (4611686018427387904 : Int)
def f9x3_2 (k : Int) (a : Int) (b : Int) (r : Int) (g : Int) (s : Int) (m : Int) : Bool := Go.Sx.cnd (Go.Sx.cnd (Go.Sx.cnd (!Go.Sx.A.f16_2 k a b r g s m) Bool.true (k == (0 : Int))) Bool.true (k == (6 : Int))) Bool.false (Go.Sx.cnd (k == (1 : Int)) Bool.false (Go.Sx.cnd (Go.Sx.cnd (k == (2 : Int)) Bool.true (k == (10 : Int))) (a == Go.Sx.cnd (k == (2 : Int)) a a && (b == Go.Sx.cnd (k == (2 : Int)) b b && ((0 : Int) == Go.Sx.cnd (k == (2 : Int)) g g && ((0 : Int) == Go.Sx.cnd (k == (2 : Int)) m (0 : Int) && Bool.true)))) (Go.Sx.cnd (Go.Sx.cnd (k == (3 : Int)) Bool.true (Go.Sx.cnd (k == (4 : Int)) (s != (0 : Int)) Bool.false)) Bool.false Bool.false)))
theorem n9x3_1 (k : Int) (a : Int) (b : Int) (r : Int) (g : Int) (s : Int) (m : Int) : f9x3_1 k a b r g s m := by
  simp only [f9x3_1, cnd_eq]
  grind (splits := 40)
def f9x3 : List SV → Option (Tr SV)
  | [.agg [.int .i64 k, .int .u64 a, .int .i64 b, .int .i64 r, .int .i64 g, .int .i64 s, .int .u64 m]] => some (Go.Sx.Tr.need (f9x3_0 k a b r g s m) (Go.Sx.Tr.leaf (Go.Sx.SV.bool (f9x3_2 k a b r g s m))))
  | _ => none
theorem s9x3 : Sound Try.prog th 9 (pureC f9x3) := pure_auto2 (us := us9x3) (nice := ((35, pureC g35x3) :: nice9x2)) ⟨sg35x3, nok9x2⟩ 20 fun args t h => by
  unfold f9x3 at h
  split at h
  · rename_i k a b r g s m
    cases h
    refine ⟨(Go.Sx.Tr.need (f9x3_0 k a b r g s m) (Go.Sx.Tr.need (f9x3_1 k a b r g s m) (Go.Sx.Tr.leaf (Go.Sx.SV.bool (f9x3_2 k a b r g s m))))), by kernel_rfl, fun ok => ?_, rfl⟩
    first
    | (simp only [Tr.ok, n9x3_1, true_and, and_true, forall_const, implies_true]; done)
    | (simp only [Tr.ok, n9x3_1, true_and, and_true, forall_const, implies_true]; done)
    | (simpa only [Tr.ok, n9x3_1, true_and, and_true, forall_const, implies_true] using ok; done)
    | (simp only [Tr.ok, n9x3_1, f9x3_0, true_and, and_true, forall_const, implies_true] at ok ⊢; grind)
  · cases h
def nice9x3 : List (Nat × CF th.R) := nice9x2
theorem nok9x3 : NiceOk Try.prog th nice9x3 := nok9x2
end Go.Sx.A

namespace Go.Sx.A
open Go Go.Sx Go.Proofs Go.RowKit
def us9x4 : List Un := [⟨59, [(2, 6)], [6]⟩, ⟨15, [(5, 7)], [15]⟩]
def f9x4_0 (k : Int) (a : Int) (b : Int) (r : Int) (g : Int) (s : Int) (m : Int) : Prop := Bool.false = Bool.false → Go.Sx.A.f35_0 k a b r g s m = Bool.false ∧ Go.Sx.A.f35_1 k a b r g s m = Bool.false ∧ Go.Sx.A.f35_3 k a b r g s m = Bool.false ∧ Go.Sx.A.f35_4 k a b r g s m = Bool.false ∧ Go.Sx.A.f35_5 k a b r g s m = Bool.true
def f9x4_1 (k : Int) (a : Int) (b : Int) (r : Int) (g : Int) (s : Int) (m : Int) : Prop := Bool.false = Bool.false → Go.Sx.cnd (Go.Sx.cnd (!Go.Sx.A.f16_2 k a b r g s m) Bool.true (k == (0 : Int))) Bool.true (k == (6 : Int)) = Bool.false → (k == (1 : Int)) = Bool.true → Bool.false = Bool.true → b ≤ (4611686018427387904 : Int)
def f9x4_2 (k : Int) (a : Int) (b : Int) (r : Int) (g : Int) (s : Int) (m : Int) : Bool := Go.Sx.cnd (Go.Sx.cnd (Go.Sx.cnd (!Go.Sx.A.f16_2 k a b r g s m) Bool.true (k == (0 : Int))) Bool.true (k == (6 : Int))) Bool.false (Go.Sx.cnd (k == (1 : Int)) Bool.false (Go.Sx.cnd (Go.Sx.cnd (k == (2 : Int)) Bool.true (k == (10 : Int))) Bool.false (Go.Sx.cnd (Go.Sx.cnd (k == (3 : Int)) Bool.true (Go.Sx.cnd (k == (4 : Int)) (s != (0 : Int)) Bool.false)) (Go.Sx.cnd (Go.Sx.cnd (Go.Sx.cnd (Go.Sx.cnd (a == a) (r == r) Bool.false) (s == s) Bool.false) (m == m) Bool.false) (Go.Sx.cnd (Go.Sx.cnd (k == (4 : Int)) (Go.Sx.A.f35_6 k a b r g s m == g) Bool.false) Bool.true (Go.Sx.cnd (k == (3 : Int)) (Go.Sx.A.f36_0 (Go.Sx.A.f35_6 k a b r g s m) == b) Bool.false)) Bool.false) Bool.false)))
theorem n9x4_1 (k : Int) (a : Int) (b : Int) (r : Int) (g : Int) (s : Int) (m : Int) : f9x4_1 k a b r g s m := by
  simp only [f9x4_1, cnd_eq]
  grind (splits := 40)
def f9x4 : List SV → Option (Tr SV)
  | [.agg [.int .i64 k, .int .u64 a, .int .i64 b, .int .i64 r, .int .i64 g, .int .i64 s, .int .u64 m]] => some (Go.Sx.Tr.need (f9x4_0 k a b r g s m) (Go.Sx.Tr.leaf (Go.Sx.SV.bool (f9x4_2 k a b r g s m))))
  | _ => none
theorem s9x4 : Sound Try.prog th 9 (pureC f9x4) := pure_auto2 (us := us9x4) (nice := ((35, pureC g35x4) :: nice9x3)) ⟨sg35x4, nok9x3⟩ 20 fun args t h => by
  unfold f9x4 at h
  split at h
  · rename_i k a b r g s m
    cases h
    refine ⟨(Go.Sx.Tr.need (f9x4_0 k a b r g s m) (Go.Sx.Tr.need (f9x4_1 k a b r g s m) (Go.Sx.Tr.leaf (Go.Sx.SV.bool (f9x4_2 k a b r g s m))))), by kernel_rfl, fun ok => ?_, rfl⟩
    first
    | (simp only [Tr.ok, n9x4_1, true_and, and_true, forall_const, implies_true]; done)
    | (simp only [Tr.ok, n9x4_1, true_and, and_true, forall_const, implies_true]; done)
    | (simpa only [Tr.ok, n9x4_1, true_and, and_true, forall_const, implies_true] using ok; done)
    | (simp only [Tr.ok, n9x4_1, f9x4_0, true_and, and_true, forall_const, implies_true] at ok ⊢; grind)
  · cases h
def nice9x4 : List (Nat × CF th.R) := nice9x3
theorem nok9x4 : NiceOk Try.prog th nice9x4 := nok9x3
end Go.Sx.A

namespace Go.Sx.A
open Go Go.Sx Go.Proofs Go.RowKit
def us9x5 : List Un := [⟨59, [(2, 6)], [6]⟩, ⟨15, [(5, 7)], [15]⟩]
def f9x5_0 (k : Int) (a : Int) (b : Int) (r : Int) (g : Int) (s : Int) (m : Int) : Prop := Bool.false = Bool.false → Go.Sx.A.f35_0 k a b r g s m = Bool.false ∧ Go.Sx.A.f35_1 k a b r g s m = Bool.false ∧ Go.Sx.A.f35_3 k a b r g s m = Bool.false ∧ Go.Sx.A.f35_4 k a b r g s m = Bool.false ∧ Go.Sx.A.f35_5 k a b r g s m = Bool.false ∧ Go.Sx.A.f35_7 k a b r g s m = Bool.true
def f9x5_1 (k : Int) (a : Int) (b : Int) (r : Int) (g : Int) (s : Int) (m : Int) : Prop := Bool.false = Bool.false → Go.Sx.cnd (Go.Sx.cnd (!Go.Sx.A.f16_2 k a b r g s m) Bool.true (k == (0 : Int))) Bool.true (k == (6 : Int)) = Bool.false → (k == (1 : Int)) = Bool.true → Bool.false = Bool.true → b ≤ (4611686018427387904 : Int)
def f9x5_2 (k : Int) (a : Int) (b : Int) (r : Int) (g : Int) (s : Int) (m : Int) : Bool := Go.Sx.cnd (Go.Sx.cnd (Go.Sx.cnd (!Go.Sx.A.f16_2 k a b r g s m) Bool.true (k == (0 : Int))) Bool.true (k == (6 : Int))) Bool.false (Go.Sx.cnd (k == (1 : Int)) Bool.false (Go.Sx.cnd (Go.Sx.cnd (k == (2 : Int)) Bool.true (k == (10 : Int))) Bool.false (Go.Sx.cnd (Go.Sx.cnd (k == (3 : Int)) Bool.true (Go.Sx.cnd (k == (4 : Int)) (s != (0 : Int)) Bool.false)) (Go.Sx.cnd (Go.Sx.cnd (Go.Sx.cnd (Go.Sx.cnd (a == a) ((0 : Int) == r) Bool.false) (s == s) Bool.false) (m == m) Bool.false) (Go.Sx.cnd (Go.Sx.cnd (k == (4 : Int)) (g == g) Bool.false) Bool.true (Go.Sx.cnd (k == (3 : Int)) (Go.Sx.A.f36_0 g == b) Bool.false)) Bool.false) Bool.false)))
theorem n9x5_1 (k : Int) (a : Int) (b : Int) (r : Int) (g : Int) (s : Int) (m : Int) : f9x5_1 k a b r g s m := by
  simp only [f9x5_1, cnd_eq]
  grind (splits := 40)
def f9x5 : List SV → Option (Tr SV)
  | [.agg [.int .i64 k, .int .u64 a, .int .i64 b, .int .i64 r, .int .i64 g, .int .i64 s, .int .u64 m]] => some (Go.Sx.Tr.need (f9x5_0 k a b r g s m) (Go.Sx.Tr.leaf (Go.Sx.SV.bool (f9x5_2 k a b r g s m))))
  | _ => none
theorem s9x5 : Sound Try.prog th 9 (pureC f9x5) := pure_auto2 (us := us9x5) (nice := ((35, pureC g35x5) :: nice9x4)) ⟨sg35x5, nok9x4⟩ 20 fun args t h => by
  unfold f9x5 at h
  split at h
  · rename_i k a b r g s m
    cases h
    refine ⟨(Go.Sx.Tr.need (f9x5_0 k a b r g s m) (Go.Sx.Tr.need (f9x5_1 k a b r g s m) (Go.Sx.Tr.leaf (Go.Sx.SV.bool (f9x5_2 k a b r g s m))))), by kernel_rfl, fun ok => ?_, rfl⟩
    first
    | (simp only [Tr.ok, n9x5_1, true_and, and_true, forall_const, implies_true]; done)
    | (simp only [Tr.ok, n9x5_1, true_and, and_true, forall_const, implies_true]; done)
    | (simpa only [Tr.ok, n9x5_1, true_and, and_true, forall_const, implies_true] using ok; done)
    | (simp only [Tr.ok, n9x5_1, f9x5_0, true_and, and_true, forall_const, implies_true] at ok ⊢; grind)
  · cases h
def nice9x5 : List (Nat × CF th.R) := nice9x4
theorem nok9x5 : NiceOk Try.prog th nice9x5 := nok9x4
end Go.Sx.A

namespace Go.Sx.A
open Go Go.Sx Go.Proofs Go.RowKit
def us9x6 : List Un := [⟨59, [(2, 6)], [6]⟩, ⟨15, [(5, 7)], [15]⟩]
def f9x6_0 (k : Int) (a : Int) (b : Int) (r : Int) (g : Int) (s : Int) (m : Int) : Prop := Bool.false = Bool.false → Go.Sx.A.f35_0 k a b r g s m = Bool.false ∧ Go.Sx.A.f35_1 k a b r g s m = Bool.false ∧ Go.Sx.A.f35_3 k a b r g s m = Bool.false ∧ Go.Sx.A.f35_4 k a b r g s m = Bool.false ∧ Go.Sx.A.f35_5 k a b r g s m = Bool.false ∧ Go.Sx.A.f35_7 k a b r g s m = Bool.false
def f9x6_1 (k : Int) (a : Int) (b : Int) (r : Int) (g : Int) (s : Int) (m : Int) : Prop := Bool.false = Bool.false → Go.Sx.cnd (Go.Sx.cnd (!Go.Sx.A.f16_2 k a b r g s m) Bool.true (k == (0 : Int))) Bool.true (k == (6 : Int)) = Bool.false → (k == (1 : Int)) = Bool.true → Bool.false = Bool.true → b ≤ (4611686018427387904 : Int)
def f9x6_2 (k : Int) (a : Int) (b : Int) (r : Int) (g : Int) (s : Int) (m : Int) : Bool := Go.Sx.cnd (Go.Sx.cnd (Go.Sx.cnd (!Go.Sx.A.f16_2 k a b r g s m) Bool.true (k == (0 : Int))) Bool.true (k == (6 : Int))) Bool.false (Go.Sx.cnd (k == (1 : Int)) Bool.false (Go.Sx.cnd (Go.Sx.cnd (k == (2 : Int)) Bool.true (k == (10 : Int))) Bool.false (Go.Sx.cnd (Go.Sx.cnd (k == (3 : Int)) Bool.true (Go.Sx.cnd (k == (4 : Int)) (s != (0 : Int)) Bool.false)) Bool.false (a == a))))
theorem n9x6_1 (k : Int) (a : Int) (b : Int) (r : Int) (g : Int) (s : Int) (m : Int) : f9x6_1 k a b r g s m := by
  simp only [f9x6_1, cnd_eq]
  grind (splits := 40)
def f9x6 : List SV → Option (Tr SV)
  | [.agg [.int .i64 k, .int .u64 a, .int .i64 b, .int .i64 r, .int .i64 g, .int .i64 s, .int .u64 m]] => some (Go.Sx.Tr.need (f9x6_0 k a b r g s m) (Go.Sx.Tr.leaf (Go.Sx.SV.bool (f9x6_2 k a b r g s m))))
  | _ => none
theorem s9x6 : Sound Try.prog th 9 (pureC f9x6) := pure_auto2 (us := us9x6) (nice := ((35, pureC g35x6) :: nice9x5)) ⟨sg35x6, nok9x5⟩ 20 fun args t h => by
  unfold f9x6 at h
  split at h
  · rename_i k a b r g s m
    cases h
    refine ⟨(Go.Sx.Tr.need (f9x6_0 k a b r g s m) (Go.Sx.Tr.need (f9x6_1 k a b r g s m) (Go.Sx.Tr.leaf (Go.Sx.SV.bool (f9x6_2 k a b r g s m))))), by kernel_rfl, fun ok => ?_, rfl⟩
    first
    | (simp only [Tr.ok, n9x6_1, true_and, and_true, forall_const, implies_true]; done)
    | (simp only [Tr.ok, n9x6_1, true_and, and_true, forall_const, implies_true]; done)
    | (simpa only [Tr.ok, n9x6_1, true_and, and_true, forall_const, implies_true] using ok; done)
    | (simp only [Tr.ok, n9x6_1, f9x6_0, true_and, and_true, forall_const, implies_true] at ok ⊢; grind)
  · cases h
def nice9x6 : List (Nat × CF th.R) := nice9x5
theorem nok9x6 : NiceOk Try.prog th nice9x6 := nok9x5
end Go.Sx.A

