/- Contracts of the functions of this seat, each by the executor and the kernel; part 4. Their conditions stand in each. -/
import Derived.Test.YtdeaddkppjdacaaC3
set_option linter.unusedVariables false
set_option linter.unusedSimpArgs false
namespace Go.Sx.S
open Go Go.Sx Go.Proofs Go.RowKit
set_option maxRecDepth 100000
open So
theorem seg_count (E : Nat → Sp) (a : Sp) (n : Nat) : (seg E 0 (n + 1)).count a = (seg E 0 n).count a + if E n = a then 1 else 0 := by
  rw [seg_succ, List.count_append]
  congr 1
  by_cases h : E n = a
  · subst h; simp
  · simp [h]
theorem seg_count_le (E : Nat → Sp) (a : Sp) (n : Nat) : (seg E 0 n).count a ≤ n := by
  have := List.count_le_length (a := a) (l := seg E 0 n)
  rw [seg_length] at this; exact this
theorem l3_1 {L M : Nat} {F G F' G' : Nat → Int} {ob : Obj} (a : Sp) (y1 y2 y3 : Int) (n : Nat) (h : L ≤ M) (hL : L ≤ 60) :
    LT (r3_1 (P3_1.mk L L n y1 y2 L M ob F G L F' G' a.1 a.2)) (S3_1.mk 0 0 0) ∧ (fun s : S3_1 => s.x6 = (((seg (sp F G) 0 L).count a : Nat) : Int) ∧ s.x7 = (((seg (sp F' G') 0 L).count a : Nat) : Int)) (lastS (r3_1 (P3_1.mk L L n y1 y2 L M ob F G L F' G' a.1 a.2)) (S3_1.mk 0 0 0)) := by
  refine LT.post (fun s : S3_1 => ∃ j : Nat, s.x65 = j ∧ j ≤ L ∧ s.x6 = (((seg (sp F G) 0 j).count a : Nat) : Int) ∧ s.x7 = (((seg (sp F' G') 0 j).count a : Nat) : Int))
    (fun s : S3_1 => s.x6 = (((seg (sp F G) 0 L).count a : Nat) : Int) ∧ s.x7 = (((seg (sp F' G') 0 L).count a : Nat) : Int)) (fun s : S3_1 => (L - s.x65).toNat) ?_ ?_
  rotate_left
  · exact ⟨0, rfl, Nat.zero_le _, rfl, rfl⟩
  rintro ⟨x, y, z⟩ ⟨j, g1, g2, g3, g4⟩
  simp only at g1 g3 g4
  subst g1 g3 g4
  have b1 := seg_count_le (sp F G) a j
  have b2 := seg_count_le (sp F' G') a j
  have w1 : IntKind.i64.wrap ((j : Int) + 1) = ((j + 1 : Nat) : Int) := by rw [wi (by omega) (by omega)]; omega
  have w2 : IntKind.i64.wrap ((((seg (sp F G) 0 j).count a : Nat) : Int) + 1) = (((seg (sp F G) 0 j).count a + 1 : Nat) : Int) := by rw [wi (by omega) (by omega)]; omega
  have w3 : IntKind.i64.wrap ((((seg (sp F' G') 0 j).count a : Nat) : Int) + 1) = (((seg (sp F' G') 0 j).count a + 1 : Nat) : Int) := by rw [wi (by omega) (by omega)]; omega
  have e : ∀ (F G : Nat → Int), (F j == a.1 && (G j == a.2 && true)) = decide (sp F G j = a) := fun F G => by
    rw [Bool.eq_iff_iff]; simp [sp, Prod.ext_iff]
  simp only [r3_1, e3_1_0, e3_1_2, e3_1_3, e3_1_5, e3_1_6, e3_1_7, Tr.ok, Tr.get, w1, w2, w3, Nat.zero_add, Int.toNat_natCast, e, cndB, decide_eq_true_eq]
  by_cases hc : j < L
  · have hd : (if (j : Int) < (L : Int) then false else true) = false := if_pos (by omega)
    rw [hd]
    refine ⟨⟨(fun e => by cases e), fun _ => ⟨⟨fun _ => by omega, fun _ => by omega⟩, ⟨fun _ => by omega, fun _ => by omega⟩, trivial⟩⟩, .inr ⟨_, rfl, ⟨j + 1, rfl, hc, ?_, ?_⟩, by simp only; omega⟩⟩
    · rw [seg_count]; simp only; split <;> omega
    · rw [seg_count]; simp only; split <;> omega
  · have hd : (if (j : Int) < (L : Int) then false else true) = true := if_neg (by omega)
    rw [hd]
    have : j = L := by omega
    subst this
    exact ⟨⟨fun _ => trivial, (fun e => by cases e)⟩, .inl ⟨⟨_, _, _, rfl⟩, rfl, rfl⟩⟩
def pre3 (v : V3) : Prop := v.L ≤ v.M
theorem n3 (v : V3) (h : pre3 v) : (f3 v).ok ∧ (f3 v).get.1 = .bool true ∧ HOws (f3 v).get.2.1 [HO.ro 27 2 v.M (fun j => [SV.int .u64 (v.F j), SV.int .u64 (v.G j)]) v.ob] := by
  obtain ⟨L, M, ob, F, G⟩ := v
  have h : L ≤ M := h
  by_cases hL : L ≤ 60
  · have hd : decide ((L : Int) > 60) = false := decide_eq_false (by omega)
    have hn : ((L : Int) != L) = false := by simp
    have key : f3_5 (V3.mk L M ob F G) ∧ (f3z0 (V3.mk L M ob F G)).x23 = L := by
      have : LT (r3_0 (P3_0.mk L L L (L : Int) M ob F G L (fun j => (srt (sp F G) 0 L j).fst) fun j => (srt (sp F G) 0 L j).snd)) (S3_0.mk 0) ∧ (fun s : S3_0 => s.x23 = L) (lastS (r3_0 (P3_0.mk L L L (L : Int) M ob F G L (fun j => (srt (sp F G) 0 L j).fst) fun j => (srt (sp F G) 0 L j).snd)) (S3_0.mk 0)) := by
        refine LT.post (fun s : S3_0 => ∃ i : Nat, s.x23 = i ∧ i ≤ L) (fun s : S3_0 => s.x23 = L) (fun s : S3_0 => (L - s.x23).toNat) ?_ ?_
        rotate_left
        · exact ⟨0, rfl, Nat.zero_le _⟩
        rintro ⟨x⟩ ⟨i, g1, g2⟩
        simp only at g1
        subst g1
        have w1 : IntKind.i64.wrap ((i : Int) + 1) = ((i + 1 : Nat) : Int) := by rw [wi (by omega) (by omega)]; omega
        obtain ⟨k1, k2, k3⟩ := l3_1 (L := L) (M := M) (F := F) (G := G) (F' := fun j => (srt (sp F G) 0 L j).fst) (G' := fun j => (srt (sp F G) 0 L j).snd) (ob := ob) (srt (sp F G) 0 L i) L i L L h hL
        have hcount : (seg (sp F G) 0 L).count (srt (sp F G) 0 L i) = (seg (sp (fun j => (srt (sp F G) 0 L j).fst) fun j => (srt (sp F G) 0 L j).snd) 0 L).count (srt (sp F G) 0 L i) :=
          ((srt_perm (sp F G) 0 L).perm.count_eq _).symm
        simp only [r3_0, e3_0_0, e3_0_2, e3_0_3, e3_0_4, e3_0_5, e3_0_7, e3_0_8, e3_0_10, Tr.ok, Tr.get, w1, Nat.zero_add, Int.toNat_natCast]
        rw [k2, k3, hcount]
        by_cases hc : i < L
        · rw [show cnd (decide ((i : Int) < L)) false true = false from by rw [decide_eq_true (by omega)]; rfl]
          have e8 : ((((seg (sp (fun j => (srt (sp F G) 0 L j).fst) fun j => (srt (sp F G) 0 L j).snd) 0 L).count (srt (sp F G) 0 L i) : Nat) : Int) != (((seg (sp (fun j => (srt (sp F G) 0 L j).fst) fun j => (srt (sp F G) 0 L j).snd) 0 L).count (srt (sp F G) 0 L i) : Nat) : Int)) = false := by simp
          rw [e8]
          by_cases hi : 0 < i
          · have w2 : IntKind.i64.wrap ((i : Int) - 1) = ((i - 1 : Nat) : Int) := by rw [wi (by omega) (by omega)]; omega
            have hs := srt_sorted (sp F G) 0 L (i - 1) i (Nat.zero_le _) (by omega) hc
            rw [le_iff] at hs
            rw [decide_eq_true (show (i : Int) > 0 by omega), w2]
            simp only [Int.toNat_natCast]
            have e5 : cnd true (cnd (decide ((srt (sp F G) 0 L (i - 1)).fst > (srt (sp F G) 0 L i).fst)) true (cnd ((srt (sp F G) 0 L (i - 1)).fst == (srt (sp F G) 0 L i).fst) (decide ((srt (sp F G) 0 L (i - 1)).snd < (srt (sp F G) 0 L i).snd)) false)) false = false := by
              rcases hs with hs | ⟨hs, hs2⟩
              · have a1 : decide ((srt (sp F G) 0 L (i - 1)).fst > (srt (sp F G) 0 L i).fst) = false := decide_eq_false (by omega)
                have a2 : ((srt (sp F G) 0 L (i - 1)).fst == (srt (sp F G) 0 L i).fst) = false := by rw [beq_eq_false_iff_ne]; omega
                rw [a1, a2]; rfl
              · have a1 : decide ((srt (sp F G) 0 L (i - 1)).fst > (srt (sp F G) 0 L i).fst) = false := decide_eq_false (by omega)
                have a2 : decide ((srt (sp F G) 0 L (i - 1)).snd < (srt (sp F G) 0 L i).snd) = false := decide_eq_false (by omega)
                rw [a1, a2]
                cases ((srt (sp F G) 0 L (i - 1)).fst == (srt (sp F G) 0 L i).fst) <;> rfl
            rw [e5]
            refine ⟨⟨(fun e => by cases e), fun _ => ⟨by omega, by omega, ?_, (fun e => by cases e), fun _ => ⟨k1, (fun e => by cases e), fun _ => trivial⟩⟩⟩, .inr ⟨_, rfl, ⟨i + 1, rfl, hc⟩, by simp only; omega⟩⟩
            refine ⟨fun _ => by omega, fun _ => by omega, fun _ => by omega, fun _ => by omega, ?_⟩
            (repeat' apply And.intro) <;> (intro _; omega)
          · have : i = 0 := by omega
            subst this
            rw [decide_eq_false (show ¬ ((0 : Nat) : Int) > 0 by omega)]
            refine ⟨⟨(fun e => by cases e), fun _ => ⟨by omega, by omega, ?_, (fun e => by cases e), fun _ => ⟨k1, (fun e => by cases e), fun _ => trivial⟩⟩⟩, .inr ⟨_, rfl, ⟨1, rfl, hc⟩, by simp only; omega⟩⟩
            (repeat' apply And.intro) <;> (intro e; cases e)
        · rw [show cnd (decide ((i : Int) < L)) false true = true from by rw [decide_eq_false (by omega)]; rfl]
          have : i = L := by omega
          subst this
          exact ⟨⟨fun _ => trivial, (fun e => by cases e)⟩, .inl ⟨⟨_, _, _, rfl⟩, rfl⟩⟩
      exact ⟨fun _ _ _ => this.1, this.2⟩
    refine ⟨⟨fun _ _ => ⟨h, by simp only; omega⟩, key.1, trivial⟩, ?_, .refl _⟩
    show SV.bool (f3_6 _) = _
    simp only [f3_6, e3_0_0, key.2, hd, hn]
    rw [show cnd (decide ((L : Int) < L)) false true = true from by rw [decide_eq_false (by omega)]; rfl]
    rfl
  · have hd : decide ((L : Int) > 60) = true := decide_eq_true (by omega)
    refine ⟨⟨?_, ?_, trivial⟩, ?_, .refl _⟩
    · intro _ e; simp only at e; rw [hd] at e; cases e
    · intro _ e; simp only at e; rw [hd] at e; cases e
    · show SV.bool (f3_6 _) = _
      simp only [f3_6, hd]
      rfl
noncomputable def f3n (v : V3) : Tr (Fin th.R) := .need (pre3 v) (.leaf (.bool true, [.ro 27 2 v.M (fun j => [.int .u64 (v.F j), .int .u64 (v.G j)]) v.ob], []))
theorem s3n : Sound Try.prog th 3 (fnC d3 ofV3 f3n) := fnC_refine s3 fun v h => by
  obtain ⟨hp, _⟩ := h
  obtain ⟨a, b, c⟩ := n3 v hp
  exact ⟨a, b.symm, (qdd3 v).symm, c, by show 1 ≤ 1; decide⟩
theorem claw3 (v : V3) : fnC d3 ofV3 f3n (A3 v) (H3 v) = some (.need (∀ i, i < v.M → (fun j => [.int .u64 (v.F j), .int .u64 (v.G j)] : Nat → List SV) i = elC (fun j => [.int .u64 (v.F j), .int .u64 (v.G j)] : Nat → List SV) 0 [.int .u64, .int .u64] i) ((f3n v).map (fixF (H3 v)))) := by kernel_rfl
noncomputable def nice3n : List (Nat × CF th.R) := (3, lift (fnC d3 ofV3 f3n)) :: nice36n
theorem nok3n : NiceOk Try.prog th nice3n := ⟨lift_sound s3n, nok36n⟩
end Go.Sx.S

