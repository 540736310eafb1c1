/- Contracts of more functions of this seat, each by the executor and the kernel. Their conditions stand in each. -/
import Derived.Test.YtloeihhocifnpaaK2
import Derived.Test.YtloeihhocifnpaaSx3
set_option linter.unusedVariables false
set_option linter.unusedSimpArgs false
namespace Go.Sx.A
open Go Go.Sx Go.Proofs Go.RowKit
def us55 : List Un := []
def nmL : List ByteArray := [⟨#[110, 117, 108, 108]⟩, ⟨#[117, 110, 116, 121, 112, 101, 100]⟩, ⟨#[110, 111, 100, 101]⟩, ⟨#[102, 114, 97, 109, 101]⟩, ⟨#[116, 97, 98, 108, 101]⟩, ⟨#[115, 112, 97, 99, 101]⟩, ⟨#[99, 111, 110, 116, 114, 111, 108]⟩, ⟨#[112, 111, 111, 108]⟩, ⟨#[116, 104, 114, 101, 97, 100]⟩, ⟨#[110, 111, 116, 101]⟩, ⟨#[122, 111, 109, 98, 105, 101]⟩]
def nm (i : Nat) : ByteArray := nmL.getD i ⟨#[]⟩
def C55 : CF th.R
  | [], [] => some (.leaf (.slc 0 1 0 11, [.row 9 1 11 fun i => [.str (nm i)]], []))
  | _, _ => none
def el55 (D : CF th.R) (i : Nat) : List SV := match D [] [] with
  | some (.need _ (.leaf (_, [.row _ _ _ el], _))) => el i
  | _ => []
theorem s55 : Sound Try.prog th 55 C55 := by
  cases hD : auto th Try.prog nice14 us55 20 55 with
  | none => exact absurd (show (auto th Try.prog nice14 us55 20 55).isSome = true by kernel_rfl) (by rw [hD]; simp)
  | some D =>
    refine fn_weak (auto_sound nok14 20 55 D hD) fun args h t e hok => ?_
    unfold C55 at e
    split at e
    · cases e
      have key : (auto th Try.prog nice14 us55 20 55).bind (fun C => C [] []) = some (.need (∀ i, scpL 0 (el55 ((auto th Try.prog nice14 us55 20 55).getD (fun _ _ => none)) i) = true) (.leaf (.slc 0 1 0 11, [.row 9 1 11 (fun i => el55 ((auto th Try.prog nice14 us55 20 55).getD (fun _ _ => none)) i)], []))) := by kernel_rfl
      have sc : ∀ i, scpL 0 (el55 ((auto th Try.prog nice14 us55 20 55).getD (fun _ _ => none)) i) = true := fun i => by kernel_rfl
      have e0 : el55 ((auto th Try.prog nice14 us55 20 55).getD (fun _ _ => none)) 0 = [.str (nm 0)] := by kernel_rfl
      have e1 : el55 ((auto th Try.prog nice14 us55 20 55).getD (fun _ _ => none)) 1 = [.str (nm 1)] := by kernel_rfl
      have e2 : el55 ((auto th Try.prog nice14 us55 20 55).getD (fun _ _ => none)) 2 = [.str (nm 2)] := by kernel_rfl
      have e3 : el55 ((auto th Try.prog nice14 us55 20 55).getD (fun _ _ => none)) 3 = [.str (nm 3)] := by kernel_rfl
      have e4 : el55 ((auto th Try.prog nice14 us55 20 55).getD (fun _ _ => none)) 4 = [.str (nm 4)] := by kernel_rfl
      have e5 : el55 ((auto th Try.prog nice14 us55 20 55).getD (fun _ _ => none)) 5 = [.str (nm 5)] := by kernel_rfl
      have e6 : el55 ((auto th Try.prog nice14 us55 20 55).getD (fun _ _ => none)) 6 = [.str (nm 6)] := by kernel_rfl
      have e7 : el55 ((auto th Try.prog nice14 us55 20 55).getD (fun _ _ => none)) 7 = [.str (nm 7)] := by kernel_rfl
      have e8 : el55 ((auto th Try.prog nice14 us55 20 55).getD (fun _ _ => none)) 8 = [.str (nm 8)] := by kernel_rfl
      have e9 : el55 ((auto th Try.prog nice14 us55 20 55).getD (fun _ _ => none)) 9 = [.str (nm 9)] := by kernel_rfl
      have e10 : el55 ((auto th Try.prog nice14 us55 20 55).getD (fun _ _ => none)) 10 = [.str (nm 10)] := by kernel_rfl
      have el : ∀ i, i < 11 → el55 ((auto th Try.prog nice14 us55 20 55).getD (fun _ _ => none)) i = [.str (nm i)] := by
        intro i hi
        have : i = 0 ∨ i = 1 ∨ i = 2 ∨ i = 3 ∨ i = 4 ∨ i = 5 ∨ i = 6 ∨ i = 7 ∨ i = 8 ∨ i = 9 ∨ i = 10 := by omega
        rcases this with rfl | rfl | rfl | rfl | rfl | rfl | rfl | rfl | rfl | rfl | rfl
        · exact e0
        · exact e1
        · exact e2
        · exact e3
        · exact e4
        · exact e5
        · exact e6
        · exact e7
        · exact e8
        · exact e9
        · exact e10
      rw [hD] at key el sc
      exact ⟨_, key, ⟨sc, trivial⟩, rfl, .cons (.row el) .nil, Nat.zero_le _, fun n hn => absurd hn (Nat.not_lt_zero n)⟩
    · cases e
noncomputable def nice55 : List (Nat × CF th.R) := (55, lift C55) :: nice14
theorem nok55 : NiceOk Try.prog th nice55 := ⟨lift_sound s55, nok14⟩
end Go.Sx.A

namespace Go.Sx.A
open Go Go.Sx Go.Proofs Go.RowKit
def us21 : List Un := []
def f21_0 (k : Int) : Prop := Go.Sx.cnd (Decidable.decide (k < (0 : Int))) Bool.true (Decidable.decide (k ≥ (11 : Int))) = Bool.false → ∀ (i : Nat), Go.Sx.scpL (0 : Nat) ((fun i => [Go.Sx.SV.str (Go.Sx.A.nm i)]) i) = Bool.true
def f21_1 (k : Int) : Prop := Go.Sx.cnd (Decidable.decide (k < (0 : Int))) Bool.true (Decidable.decide (k ≥ (11 : Int))) = Bool.false → (0 : Int) ≤ k ∧ k < (11 : Int)
def f21_2 (k : Int) : Prop := Go.Sx.cnd (Decidable.decide (k < (0 : Int))) Bool.true (Decidable.decide (k ≥ (11 : Int))) = Bool.false → (0 : Nat) + k.toNat < (11 : Nat)
def f21_3 (k : Int) : ByteArray := Go.Sx.cnd (Go.Sx.cnd (Decidable.decide (k < (0 : Int))) Bool.true (Decidable.decide (k ≥ (11 : Int)))) (ByteArray.mk #[]) (Go.Sx.A.nm ((0 : Nat) + k.toNat))
theorem n21_0 (k : Int) : f21_0 k := by
  unfold f21_0
  intros
  first
  | exact scpL_rowEl (by kernel_rfl) _
  | exact scpL_chunk (by kernel_rfl)
  | rfl
theorem n21_1 (k : Int) : f21_1 k := by
  simp only [f21_1, cnd_eq]
  grind (splits := 40)
theorem n21_2 (k : Int) : f21_2 k := by
  simp only [f21_2, cnd_eq]
  grind (splits := 40)
def f21 : List SV → Option (Tr SV)
  | [.int .i64 k] => some (Go.Sx.Tr.leaf (Go.Sx.SV.str (f21_3 k)))
  | _ => none
theorem s21 : Sound Try.prog th 21 (pureC f21) := pure_auto2 (us := us21) (nice := nice55) nok55 20 fun args t h => by
  unfold f21 at h
  split at h
  · rename_i k
    cases h
    refine ⟨(Go.Sx.Tr.need (f21_0 k) (Go.Sx.Tr.need (f21_1 k) (Go.Sx.Tr.need (f21_2 k) (Go.Sx.Tr.leaf (Go.Sx.SV.str (f21_3 k)))))), by kernel_rfl, fun ok => ?_, rfl⟩
    first
    | (simp only [Tr.ok, n21_0, n21_1, n21_2, true_and, and_true, forall_const, implies_true]; done)
    | (simp only [Tr.ok, n21_0, n21_1, n21_2, true_and, and_true, forall_const, implies_true]; done)
    | (simpa only [Tr.ok, n21_0, n21_1, n21_2, true_and, and_true, forall_const, implies_true] using ok; done)
    | (simp only [Tr.ok, n21_0, n21_1, n21_2, true_and, and_true, forall_const, implies_true] at ok ⊢; grind)
  · cases h
noncomputable def nice21 : List (Nat × CF th.R) := (21, pureC f21) :: nice55
theorem nok21 : NiceOk Try.prog th nice21 := ⟨s21, nok55⟩
end Go.Sx.A

namespace Go.Sx.A
open Go Go.Sx Go.Proofs Go.RowKit
def us22 : List Un := [⟨22, [(2, 12)], [9]⟩]
def f22_0 (n : ByteArray) : Prop := ∀ (i : Nat), Go.Sx.scpL (0 : Nat) ((fun i => [Go.Sx.SV.str (Go.Sx.A.nm i)]) i) = Bool.true
def f22_1 (n : ByteArray) : Prop := (0 : Int) ≤ (0 : Int) ∧ (0 : Int) < (11 : Int)
def f22_2 (n : ByteArray) : Prop := (0 : Nat) + Int.toNat (0 : Int) < (11 : Nat)
def f22_3 (n : ByteArray) : Prop := ((Go.Sx.A.nm ((0 : Nat) + Int.toNat (0 : Int))).toList == n.toList) = Bool.false → (0 : Int) ≤ (1 : Int) ∧ (1 : Int) < (11 : Int)
def f22_4 (n : ByteArray) : Prop := ((Go.Sx.A.nm ((0 : Nat) + Int.toNat (0 : Int))).toList == n.toList) = Bool.false → (0 : Nat) + Int.toNat (1 : Int) < (11 : Nat)
def f22_5 (n : ByteArray) : Prop := ((Go.Sx.A.nm ((0 : Nat) + Int.toNat (0 : Int))).toList == n.toList) = Bool.false → ((Go.Sx.A.nm ((0 : Nat) + Int.toNat (1 : Int))).toList == n.toList) = Bool.false → (0 : Int) ≤ (2 : Int) ∧ (2 : Int) < (11 : Int)
def f22_6 (n : ByteArray) : Prop := ((Go.Sx.A.nm ((0 : Nat) + Int.toNat (0 : Int))).toList == n.toList) = Bool.false → ((Go.Sx.A.nm ((0 : Nat) + Int.toNat (1 : Int))).toList == n.toList) = Bool.false → (0 : Nat) + Int.toNat (2 : Int) < (11 : Nat)
def f22_7 (n : ByteArray) : Prop := ((Go.Sx.A.nm ((0 : Nat) + Int.toNat (0 : Int))).toList == n.toList) = Bool.false → ((Go.Sx.A.nm ((0 : Nat) + Int.toNat (1 : Int))).toList == n.toList) = Bool.false → ((Go.Sx.A.nm ((0 : Nat) + Int.toNat (2 : Int))).toList == n.toList) = Bool.false → (0 : Int) ≤ (3 : Int) ∧ (3 : Int) < (11 : Int)
def f22_8 (n : ByteArray) : Prop := ((Go.Sx.A.nm ((0 : Nat) + Int.toNat (0 : Int))).toList == n.toList) = Bool.false → ((Go.Sx.A.nm ((0 : Nat) + Int.toNat (1 : Int))).toList == n.toList) = Bool.false → ((Go.Sx.A.nm ((0 : Nat) + Int.toNat (2 : Int))).toList == n.toList) = Bool.false → (0 : Nat) + Int.toNat (3 : Int) < (11 : Nat)
def f22_9 (n : ByteArray) : Prop := ((Go.Sx.A.nm ((0 : Nat) + Int.toNat (0 : Int))).toList == n.toList) = Bool.false → ((Go.Sx.A.nm ((0 : Nat) + Int.toNat (1 : Int))).toList == n.toList) = Bool.false → ((Go.Sx.A.nm ((0 : Nat) + Int.toNat (2 : Int))).toList == n.toList) = Bool.false → ((Go.Sx.A.nm ((0 : Nat) + Int.toNat (3 : Int))).toList == n.toList) = Bool.false → (0 : Int) ≤ (4 : Int) ∧ (4 : Int) < (11 : Int)
def f22_10 (n : ByteArray) : Prop := ((Go.Sx.A.nm ((0 : Nat) + Int.toNat (0 : Int))).toList == n.toList) = Bool.false → ((Go.Sx.A.nm ((0 : Nat) + Int.toNat (1 : Int))).toList == n.toList) = Bool.false → ((Go.Sx.A.nm ((0 : Nat) + Int.toNat (2 : Int))).toList == n.toList) = Bool.false → ((Go.Sx.A.nm ((0 : Nat) + Int.toNat (3 : Int))).toList == n.toList) = Bool.false → (0 : Nat) + Int.toNat (4 : Int) < (11 : Nat)
def f22_11 (n : ByteArray) : Prop := ((Go.Sx.A.nm ((0 : Nat) + Int.toNat (0 : Int))).toList == n.toList) = Bool.false → ((Go.Sx.A.nm ((0 : Nat) + Int.toNat (1 : Int))).toList == n.toList) = Bool.false → ((Go.Sx.A.nm ((0 : Nat) + Int.toNat (2 : Int))).toList == n.toList) = Bool.false → ((Go.Sx.A.nm ((0 : Nat) + Int.toNat (3 : Int))).toList == n.toList) = Bool.false → ((Go.Sx.A.nm ((0 : Nat) + Int.toNat (4 : Int))).toList == n.toList) = Bool.false → (0 : Int) ≤ (5 : Int) ∧ (5 : Int) < (11 : Int)
def f22_12 (n : ByteArray) : Prop := ((Go.Sx.A.nm ((0 : Nat) + Int.toNat (0 : Int))).toList == n.toList) = Bool.false → ((Go.Sx.A.nm ((0 : Nat) + Int.toNat (1 : Int))).toList == n.toList) = Bool.false → ((Go.Sx.A.nm ((0 : Nat) + Int.toNat (2 : Int))).toList == n.toList) = Bool.false → ((Go.Sx.A.nm ((0 : Nat) + Int.toNat (3 : Int))).toList == n.toList) = Bool.false → ((Go.Sx.A.nm ((0 : Nat) + Int.toNat (4 : Int))).toList == n.toList) = Bool.false → (0 : Nat) + Int.toNat (5 : Int) < (11 : Nat)
def f22_13 (n : ByteArray) : Prop := ((Go.Sx.A.nm ((0 : Nat) + Int.toNat (0 : Int))).toList == n.toList) = Bool.false → ((Go.Sx.A.nm ((0 : Nat) + Int.toNat (1 : Int))).toList == n.toList) = Bool.false → ((Go.Sx.A.nm ((0 : Nat) + Int.toNat (2 : Int))).toList == n.toList) = Bool.false → ((Go.Sx.A.nm ((0 : Nat) + Int.toNat (3 : Int))).toList == n.toList) = Bool.false → ((Go.Sx.A.nm ((0 : Nat) + Int.toNat (4 : Int))).toList == n.toList) = Bool.false → ((Go.Sx.A.nm ((0 : Nat) + Int.toNat (5 : Int))).toList == n.toList) = Bool.false → (0 : Int) ≤ (6 : Int) ∧ (6 : Int) < (11 : Int)
def f22_14 (n : ByteArray) : Prop := ((Go.Sx.A.nm ((0 : Nat) + Int.toNat (0 : Int))).toList == n.toList) = Bool.false → ((Go.Sx.A.nm ((0 : Nat) + Int.toNat (1 : Int))).toList == n.toList) = Bool.false → ((Go.Sx.A.nm ((0 : Nat) + Int.toNat (2 : Int))).toList == n.toList) = Bool.false → ((Go.Sx.A.nm ((0 : Nat) + Int.toNat (3 : Int))).toList == n.toList) = Bool.false → ((Go.Sx.A.nm ((0 : Nat) + Int.toNat (4 : Int))).toList == n.toList) = Bool.false → ((Go.Sx.A.nm ((0 : Nat) + Int.toNat (5 : Int))).toList == n.toList) = Bool.false → (0 : Nat) + Int.toNat (6 : Int) < (11 : Nat)
def f22_15 (n : ByteArray) : Prop := ((Go.Sx.A.nm ((0 : Nat) + Int.toNat (0 : Int))).toList == n.toList) = Bool.false → ((Go.Sx.A.nm ((0 : Nat) + Int.toNat (1 : Int))).toList == n.toList) = Bool.false → ((Go.Sx.A.nm ((0 : Nat) + Int.toNat (2 : Int))).toList == n.toList) = Bool.false → ((Go.Sx.A.nm ((0 : Nat) + Int.toNat (3 : Int))).toList == n.toList) = Bool.false → ((Go.Sx.A.nm ((0 : Nat) + Int.toNat (4 : Int))).toList == n.toList) = Bool.false → ((Go.Sx.A.nm ((0 : Nat) + Int.toNat (5 : Int))).toList == n.toList) = Bool.false → ((Go.Sx.A.nm ((0 : Nat) + Int.toNat (6 : Int))).toList == n.toList) = Bool.false → (0 : Int) ≤ (7 : Int) ∧ (7 : Int) < (11 : Int)
def f22_16 (n : ByteArray) : Prop := ((Go.Sx.A.nm ((0 : Nat) + Int.toNat (0 : Int))).toList == n.toList) = Bool.false → ((Go.Sx.A.nm ((0 : Nat) + Int.toNat (1 : Int))).toList == n.toList) = Bool.false → ((Go.Sx.A.nm ((0 : Nat) + Int.toNat (2 : Int))).toList == n.toList) = Bool.false → ((Go.Sx.A.nm ((0 : Nat) + Int.toNat (3 : Int))).toList == n.toList) = Bool.false → ((Go.Sx.A.nm ((0 : Nat) + Int.toNat (4 : Int))).toList == n.toList) = Bool.false → ((Go.Sx.A.nm ((0 : Nat) + Int.toNat (5 : Int))).toList == n.toList) = Bool.false → ((Go.Sx.A.nm ((0 : Nat) + Int.toNat (6 : Int))).toList == n.toList) = Bool.false → (0 : Nat) + Int.toNat (7 : Int) < (11 : Nat)
def f22_17 (n : ByteArray) : Prop := ((Go.Sx.A.nm ((0 : Nat) + Int.toNat (0 : Int))).toList == n.toList) = Bool.false → ((Go.Sx.A.nm ((0 : Nat) + Int.toNat (1 : Int))).toList == n.toList) = Bool.false → ((Go.Sx.A.nm ((0 : Nat) + Int.toNat (2 : Int))).toList == n.toList) = Bool.false → ((Go.Sx.A.nm ((0 : Nat) + Int.toNat (3 : Int))).toList == n.toList) = Bool.false → ((Go.Sx.A.nm ((0 : Nat) + Int.toNat (4 : Int))).toList == n.toList) = Bool.false → ((Go.Sx.A.nm ((0 : Nat) + Int.toNat (5 : Int))).toList == n.toList) = Bool.false → ((Go.Sx.A.nm ((0 : Nat) + Int.toNat (6 : Int))).toList == n.toList) = Bool.false → ((Go.Sx.A.nm ((0 : Nat) + Int.toNat (7 : Int))).toList == n.toList) = Bool.false → (0 : Int) ≤ (8 : Int) ∧ (8 : Int) < (11 : Int)
def f22_18 (n : ByteArray) : Prop := ((Go.Sx.A.nm ((0 : Nat) + Int.toNat (0 : Int))).toList == n.toList) = Bool.false → ((Go.Sx.A.nm ((0 : Nat) + Int.toNat (1 : Int))).toList == n.toList) = Bool.false → ((Go.Sx.A.nm ((0 : Nat) + Int.toNat (2 : Int))).toList == n.toList) = Bool.false → ((Go.Sx.A.nm ((0 : Nat) + Int.toNat (3 : Int))).toList == n.toList) = Bool.false → ((Go.Sx.A.nm ((0 : Nat) + Int.toNat (4 : Int))).toList == n.toList) = Bool.false → ((Go.Sx.A.nm ((0 : Nat) + Int.toNat (5 : Int))).toList == n.toList) = Bool.false → ((Go.Sx.A.nm ((0 : Nat) + Int.toNat (6 : Int))).toList == n.toList) = Bool.false → ((Go.Sx.A.nm ((0 : Nat) + Int.toNat (7 : Int))).toList == n.toList) = Bool.false → (0 : Nat) + Int.toNat (8 : Int) < (11 : Nat)
def f22_19 (n : ByteArray) : Prop := ((Go.Sx.A.nm ((0 : Nat) + Int.toNat (0 : Int))).toList == n.toList) = Bool.false → ((Go.Sx.A.nm ((0 : Nat) + Int.toNat (1 : Int))).toList == n.toList) = Bool.false → ((Go.Sx.A.nm ((0 : Nat) + Int.toNat (2 : Int))).toList == n.toList) = Bool.false → ((Go.Sx.A.nm ((0 : Nat) + Int.toNat (3 : Int))).toList == n.toList) = Bool.false → ((Go.Sx.A.nm ((0 : Nat) + Int.toNat (4 : Int))).toList == n.toList) = Bool.false → ((Go.Sx.A.nm ((0 : Nat) + Int.toNat (5 : Int))).toList == n.toList) = Bool.false → ((Go.Sx.A.nm ((0 : Nat) + Int.toNat (6 : Int))).toList == n.toList) = Bool.false → ((Go.Sx.A.nm ((0 : Nat) + Int.toNat (7 : Int))).toList == n.toList) = Bool.false → ((Go.Sx.A.nm ((0 : Nat) + Int.toNat (8 : Int))).toList == n.toList) = Bool.false → (0 : Int) ≤ (9 : Int) ∧ (9 : Int) < (11 : Int)
def f22_20 (n : ByteArray) : Prop := ((Go.Sx.A.nm ((0 : Nat) + Int.toNat (0 : Int))).toList == n.toList) = Bool.false → ((Go.Sx.A.nm ((0 : Nat) + Int.toNat (1 : Int))).toList == n.toList) = Bool.false → ((Go.Sx.A.nm ((0 : Nat) + Int.toNat (2 : Int))).toList == n.toList) = Bool.false → ((Go.Sx.A.nm ((0 : Nat) + Int.toNat (3 : Int))).toList == n.toList) = Bool.false → ((Go.Sx.A.nm ((0 : Nat) + Int.toNat (4 : Int))).toList == n.toList) = Bool.false → ((Go.Sx.A.nm ((0 : Nat) + Int.toNat (5 : Int))).toList == n.toList) = Bool.false → ((Go.Sx.A.nm ((0 : Nat) + Int.toNat (6 : Int))).toList == n.toList) = Bool.false → ((Go.Sx.A.nm ((0 : Nat) + Int.toNat (7 : Int))).toList == n.toList) = Bool.false → ((Go.Sx.A.nm ((0 : Nat) + Int.toNat (8 : Int))).toList == n.toList) = Bool.false → (0 : Nat) + Int.toNat (9 : Int) < (11 : Nat)
def f22_21 (n : ByteArray) : Prop := ((Go.Sx.A.nm ((0 : Nat) + Int.toNat (0 : Int))).toList == n.toList) = Bool.false → ((Go.Sx.A.nm ((0 : Nat) + Int.toNat (1 : Int))).toList == n.toList) = Bool.false → ((Go.Sx.A.nm ((0 : Nat) + Int.toNat (2 : Int))).toList == n.toList) = Bool.false → ((Go.Sx.A.nm ((0 : Nat) + Int.toNat (3 : Int))).toList == n.toList) = Bool.false → ((Go.Sx.A.nm ((0 : Nat) + Int.toNat (4 : Int))).toList == n.toList) = Bool.false → ((Go.Sx.A.nm ((0 : Nat) + Int.toNat (5 : Int))).toList == n.toList) = Bool.false → ((Go.Sx.A.nm ((0 : Nat) + Int.toNat (6 : Int))).toList == n.toList) = Bool.false → ((Go.Sx.A.nm ((0 : Nat) + Int.toNat (7 : Int))).toList == n.toList) = Bool.false → ((Go.Sx.A.nm ((0 : Nat) + Int.toNat (8 : Int))).toList == n.toList) = Bool.false → ((Go.Sx.A.nm ((0 : Nat) + Int.toNat (9 : Int))).toList == n.toList) = Bool.false → (0 : Int) ≤ (10 : Int) ∧ (10 : Int) < (11 : Int)
def f22_22 (n : ByteArray) : Prop := ((Go.Sx.A.nm ((0 : Nat) + Int.toNat (0 : Int))).toList == n.toList) = Bool.false → ((Go.Sx.A.nm ((0 : Nat) + Int.toNat (1 : Int))).toList == n.toList) = Bool.false → ((Go.Sx.A.nm ((0 : Nat) + Int.toNat (2 : Int))).toList == n.toList) = Bool.false → ((Go.Sx.A.nm ((0 : Nat) + Int.toNat (3 : Int))).toList == n.toList) = Bool.false → ((Go.Sx.A.nm ((0 : Nat) + Int.toNat (4 : Int))).toList == n.toList) = Bool.false → ((Go.Sx.A.nm ((0 : Nat) + Int.toNat (5 : Int))).toList == n.toList) = Bool.false → ((Go.Sx.A.nm ((0 : Nat) + Int.toNat (6 : Int))).toList == n.toList) = Bool.false → ((Go.Sx.A.nm ((0 : Nat) + Int.toNat (7 : Int))).toList == n.toList) = Bool.false → ((Go.Sx.A.nm ((0 : Nat) + Int.toNat (8 : Int))).toList == n.toList) = Bool.false → ((Go.Sx.A.nm ((0 : Nat) + Int.toNat (9 : Int))).toList == n.toList) = Bool.false → (0 : Nat) + Int.toNat (10 : Int) < (11 : Nat)
def f22_23 (n : ByteArray) : Int := Go.Sx.cnd ((Go.Sx.A.nm ((0 : Nat) + Int.toNat (0 : Int))).toList == n.toList) (0 : Int) (Go.Sx.cnd ((Go.Sx.A.nm ((0 : Nat) + Int.toNat (1 : Int))).toList == n.toList) (1 : Int) (Go.Sx.cnd ((Go.Sx.A.nm ((0 : Nat) + Int.toNat (2 : Int))).toList == n.toList) (2 : Int) (Go.Sx.cnd ((Go.Sx.A.nm ((0 : Nat) + Int.toNat (3 : Int))).toList == n.toList) (3 : Int) (Go.Sx.cnd ((Go.Sx.A.nm ((0 : Nat) + Int.toNat (4 : Int))).toList == n.toList) (4 : Int) (Go.Sx.cnd ((Go.Sx.A.nm ((0 : Nat) + Int.toNat (5 : Int))).toList == n.toList) (5 : Int) (Go.Sx.cnd ((Go.Sx.A.nm ((0 : Nat) + Int.toNat (6 : Int))).toList == n.toList) (6 : Int) (Go.Sx.cnd ((Go.Sx.A.nm ((0 : Nat) + Int.toNat (7 : Int))).toList == n.toList) (7 : Int) (Go.Sx.cnd ((Go.Sx.A.nm ((0 : Nat) + Int.toNat (8 : Int))).toList == n.toList) (8 : Int) (Go.Sx.cnd ((Go.Sx.A.nm ((0 : Nat) + Int.toNat (9 : Int))).toList == n.toList) (9 : Int) (Go.Sx.cnd ((Go.Sx.A.nm ((0 : Nat) + Int.toNat (10 : Int))).toList == n.toList) (10 : Int) (0 : Int)))))))))))
def f22_24 (n : ByteArray) : Bool := Go.Sx.cnd ((Go.Sx.A.nm ((0 : Nat) + Int.toNat (0 : Int))).toList == n.toList) Bool.true (Go.Sx.cnd ((Go.Sx.A.nm ((0 : Nat) + Int.toNat (1 : Int))).toList == n.toList) Bool.true (Go.Sx.cnd ((Go.Sx.A.nm ((0 : Nat) + Int.toNat (2 : Int))).toList == n.toList) Bool.true (Go.Sx.cnd ((Go.Sx.A.nm ((0 : Nat) + Int.toNat (3 : Int))).toList == n.toList) Bool.true (Go.Sx.cnd ((Go.Sx.A.nm ((0 : Nat) + Int.toNat (4 : Int))).toList == n.toList) Bool.true (Go.Sx.cnd ((Go.Sx.A.nm ((0 : Nat) + Int.toNat (5 : Int))).toList == n.toList) Bool.true (Go.Sx.cnd ((Go.Sx.A.nm ((0 : Nat) + Int.toNat (6 : Int))).toList == n.toList) Bool.true (Go.Sx.cnd ((Go.Sx.A.nm ((0 : Nat) + Int.toNat (7 : Int))).toList == n.toList) Bool.true (Go.Sx.cnd ((Go.Sx.A.nm ((0 : Nat) + Int.toNat (8 : Int))).toList == n.toList) Bool.true (Go.Sx.cnd ((Go.Sx.A.nm ((0 : Nat) + Int.toNat (9 : Int))).toList == n.toList) Bool.true (Go.Sx.cnd ((Go.Sx.A.nm ((0 : Nat) + Int.toNat (10 : Int))).toList == n.toList) Bool.true Bool.false))))))))))
theorem n22_0 (n : ByteArray) : f22_0 n := by
  unfold f22_0
  intros
  first
  | exact scpL_rowEl (by kernel_rfl) _
  | exact scpL_chunk (by kernel_rfl)
  | rfl
theorem n22_1 (n : ByteArray) : f22_1 n := by
  simp only [f22_1, cnd_eq]
  grind (splits := 40)
theorem n22_2 (n : ByteArray) : f22_2 n := by
  simp only [f22_2, cnd_eq]
  grind (splits := 40)
theorem n22_3 (n : ByteArray) : f22_3 n := by
  simp only [f22_3, cnd_eq]
  grind (splits := 40)
theorem n22_4 (n : ByteArray) : f22_4 n := by
  simp only [f22_4, cnd_eq]
  grind (splits := 40)
theorem n22_5 (n : ByteArray) : f22_5 n := by
  simp only [f22_5, cnd_eq]
  grind (splits := 40)
theorem n22_6 (n : ByteArray) : f22_6 n := by
  simp only [f22_6, cnd_eq]
  grind (splits := 40)
theorem n22_7 (n : ByteArray) : f22_7 n := by
  simp only [f22_7, cnd_eq]
  grind (splits := 40)
theorem n22_8 (n : ByteArray) : f22_8 n := by
  simp only [f22_8, cnd_eq]
  grind (splits := 40)
theorem n22_9 (n : ByteArray) : f22_9 n := by
  simp only [f22_9, cnd_eq]
  grind (splits := 40)
theorem n22_10 (n : ByteArray) : f22_10 n := by
  simp only [f22_10, cnd_eq]
  grind (splits := 40)
theorem n22_11 (n : ByteArray) : f22_11 n := by
  simp only [f22_11, cnd_eq]
  grind (splits := 40)
theorem n22_12 (n : ByteArray) : f22_12 n := by
  simp only [f22_12, cnd_eq]
  grind (splits := 40)
theorem n22_13 (n : ByteArray) : f22_13 n := by
  simp only [f22_13, cnd_eq]
  grind (splits := 40)
theorem n22_14 (n : ByteArray) : f22_14 n := by
  simp only [f22_14, cnd_eq]
  grind (splits := 40)
theorem n22_15 (n : ByteArray) : f22_15 n := by
  simp only [f22_15, cnd_eq]
  grind (splits := 40)
theorem n22_16 (n : ByteArray) : f22_16 n := by
  simp only [f22_16, cnd_eq]
  grind (splits := 40)
theorem n22_17 (n : ByteArray) : f22_17 n := by
  simp only [f22_17, cnd_eq]
  grind (splits := 40)
theorem n22_18 (n : ByteArray) : f22_18 n := by
  simp only [f22_18, cnd_eq]
  grind (splits := 40)
theorem n22_19 (n : ByteArray) : f22_19 n := by
  simp only [f22_19, cnd_eq]
  grind (splits := 40)
theorem n22_20 (n : ByteArray) : f22_20 n := by
  simp only [f22_20, cnd_eq]
  grind (splits := 40)
theorem n22_21 (n : ByteArray) : f22_21 n := by
  simp only [f22_21, cnd_eq]
  grind (splits := 40)
theorem n22_22 (n : ByteArray) : f22_22 n := by
  simp only [f22_22, cnd_eq]
  grind (splits := 40)
def f22 : List SV → Option (Tr SV)
  | [.str n] => some (Go.Sx.Tr.leaf (Go.Sx.SV.tup (List.cons (Go.Sx.SV.int (Go.IntKind.i64) (f22_23 n)) (List.cons (Go.Sx.SV.bool (f22_24 n)) (List.nil)))))
  | _ => none
theorem s22 : Sound Try.prog th 22 (pureC f22) := pure_auto2 (us := us22) (nice := nice21) nok21 20 fun args t h => by
  unfold f22 at h
  split at h
  · rename_i n
    cases h
    refine ⟨(Go.Sx.Tr.need (f22_0 n) (Go.Sx.Tr.need (f22_1 n) (Go.Sx.Tr.need (f22_2 n) (Go.Sx.Tr.need (f22_3 n) (Go.Sx.Tr.need (f22_4 n) (Go.Sx.Tr.need (f22_5 n) (Go.Sx.Tr.need (f22_6 n) (Go.Sx.Tr.need (f22_7 n) (Go.Sx.Tr.need (f22_8 n) (Go.Sx.Tr.need (f22_9 n) (Go.Sx.Tr.need (f22_10 n) (Go.Sx.Tr.need (f22_11 n) (Go.Sx.Tr.need (f22_12 n) (Go.Sx.Tr.need (f22_13 n) (Go.Sx.Tr.need (f22_14 n) (Go.Sx.Tr.need (f22_15 n) (Go.Sx.Tr.need (f22_16 n) (Go.Sx.Tr.need (f22_17 n) (Go.Sx.Tr.need (f22_18 n) (Go.Sx.Tr.need (f22_19 n) (Go.Sx.Tr.need (f22_20 n) (Go.Sx.Tr.need (f22_21 n) (Go.Sx.Tr.need (f22_22 n) (Go.Sx.Tr.leaf (Go.Sx.SV.tup (List.cons (Go.Sx.SV.int (Go.IntKind.i64) (f22_23 n)) (List.cons (Go.Sx.SV.bool (f22_24 n)) (List.nil)))))))))))))))))))))))))))), by kernel_rfl, fun ok => ?_, rfl⟩
    first
    | (simp only [Tr.ok, n22_0, n22_1, n22_2, n22_3, n22_4, n22_5, n22_6, n22_7, n22_8, n22_9, n22_10, n22_11, n22_12, n22_13, n22_14, n22_15, n22_16, n22_17, n22_18, n22_19, n22_20, n22_21, n22_22, true_and, and_true, forall_const, implies_true]; done)
    | (simp only [Tr.ok, n22_0, n22_1, n22_2, n22_3, n22_4, n22_5, n22_6, n22_7, n22_8, n22_9, n22_10, n22_11, n22_12, n22_13, n22_14, n22_15, n22_16, n22_17, n22_18, n22_19, n22_20, n22_21, n22_22, true_and, and_true, forall_const, implies_true]; done)
    | (simpa only [Tr.ok, n22_0, n22_1, n22_2, n22_3, n22_4, n22_5, n22_6, n22_7, n22_8, n22_9, n22_10, n22_11, n22_12, n22_13, n22_14, n22_15, n22_16, n22_17, n22_18, n22_19, n22_20, n22_21, n22_22, true_and, and_true, forall_const, implies_true] using ok; done)
    | (simp only [Tr.ok, n22_0, n22_1, n22_2, n22_3, n22_4, n22_5, n22_6, n22_7, n22_8, n22_9, n22_10, n22_11, n22_12, n22_13, n22_14, n22_15, n22_16, n22_17, n22_18, n22_19, n22_20, n22_21, n22_22, true_and, and_true, forall_const, implies_true] at ok ⊢; grind)
  · cases h
noncomputable def nice22 : List (Nat × CF th.R) := (22, pureC f22) :: nice21
theorem nok22 : NiceOk Try.prog th nice22 := ⟨s22, nok21⟩
end Go.Sx.A

namespace Go.Sx.A
open Go Go.Sx Go.Proofs Go.RowKit
def us5 : List Un := [⟨22, [(2, 12)], [9]⟩]
def f5_0 (k : Int) (n : ByteArray) : Bool := Go.Sx.cnd (Go.Sx.cnd (Go.Sx.cnd (Decidable.decide (k < (0 : Int))) Bool.true (Decidable.decide (k > (10 : Int)))) (!(Go.Sx.A.f21_3 k).toList == (ByteArray.mk #[]).toList) Bool.false) Bool.false (Go.Sx.cnd (Go.Sx.cnd (Go.Sx.cnd (Decidable.decide (k < (0 : Int))) Bool.true (Decidable.decide (k > (10 : Int)))) Bool.false (Go.Sx.cnd (Go.Sx.cnd ((Go.Sx.A.f21_3 k).toList == (ByteArray.mk #[]).toList) Bool.true !Go.Sx.A.f22_24 (Go.Sx.A.f21_3 k)) Bool.true (Go.Sx.A.f22_23 (Go.Sx.A.f21_3 k) != k))) Bool.false (Go.Sx.cnd (Go.Sx.cnd (Go.Sx.A.f22_24 n) ((Go.Sx.A.f21_3 (Go.Sx.A.f22_23 n)).toList == n.toList) Bool.false) Bool.true (Go.Sx.cnd (Go.Sx.cnd (!Go.Sx.A.f22_24 n) (Go.Sx.A.f22_23 n == (0 : Int)) Bool.false) (Go.Sx.cnd (!n.toList == (Go.Sx.A.f21_3 k).toList) Bool.true (n.toList == (ByteArray.mk #[]).toList)) Bool.false)))
def f5 : List SV → Option (Tr SV)
  | [.int .i64 k, .str n] => some (Go.Sx.Tr.leaf (Go.Sx.SV.bool (f5_0 k n)))
  | _ => none
theorem s5 : Sound Try.prog th 5 (pureC f5) := pure_auto (us := us5) (nice := nice22) nok22 20 fun args t h => by
  unfold f5 at h
  split at h
  · cases h; kernel_rfl
  · cases h
noncomputable def nice5 : List (Nat × CF th.R) := (5, pureC f5) :: nice22
theorem nok5 : NiceOk Try.prog th nice5 := ⟨s5, nok22⟩
end Go.Sx.A

