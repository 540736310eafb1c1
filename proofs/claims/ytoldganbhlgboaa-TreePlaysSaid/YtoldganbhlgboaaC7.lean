/- Contracts of the functions of this seat, each by the executor and the kernel; part 7. Their conditions stand in each. -/
import Derived.Test.YtoldganbhlgboaaC6
set_option linter.unusedVariables false
set_option linter.unusedSimpArgs false
set_option linter.unnecessarySimpa false
namespace Go.Sx.M
open Go Go.Sx Go.Proofs Go.RowKit
set_option maxRecDepth 100000
theorem cap12 {v : V12} {σ : Int → Sl} (hr : RepS ⟨f12_24 v, f12_22 v, f12_23 v⟩ (Lq (f12_17 v)) σ) (hz : (f12_17 v).R2.size = 65536) (hx : U64 v.x) :
    (f12_29 v = false → 0 ≤ f12_28 v ∧ f12_28 v < f12_20 v) ∧ (cnd ((f12_31 v).k == cnd (f12_29 v) (0:Int) ((f12_17 v).F4_1 (f12_30 v)) && ((f12_31 v).a == cnd (f12_29 v) (0:Int) ((f12_17 v).F4_2 (f12_30 v)) && ((f12_31 v).b == cnd (f12_29 v) (0:Int) ((f12_17 v).F4_3 (f12_30 v)) && ((f12_31 v).r == cnd (f12_29 v) (0:Int) ((f12_17 v).F4_4 (f12_30 v)) && ((f12_31 v).g == cnd (f12_29 v) (0:Int) ((f12_17 v).F4_5 (f12_30 v)) && ((f12_31 v).s == cnd (f12_29 v) (0:Int) ((f12_17 v).F4_6 (f12_30 v)) && ((f12_31 v).m == cnd (f12_29 v) (0:Int) ((f12_17 v).F4_7 (f12_30 v)) && true))))))) (ldE (f12_24 v) v.x == cnd (f12_29 v) (f12_27 v) (0:Int)) false) = true := by
  obtain ⟨cc, ce⟩ := hr.cap2 hx
  have cc : cp7 (f12_31 v) = cpN (f12_17 v).R2.size (Lq (f12_17 v)) v.x := cc
  have ce : ldE (f12_24 v) v.x = mayT (f12_17 v).R2.size v.x := ce
  rw [hz] at cc ce
  have hlt := (fnd_lt (ndf (f12_17 v).F4_0 (f12_17 v).F4_1 (f12_17 v).F4_2 (f12_17 v).F4_3 (f12_17 v).F4_4 (f12_17 v).F4_5 (f12_17 v).F4_6 (f12_17 v).F4_7 (f12_17 v).F4_8) (f12_20 v) v.x).2
  have hlt : f12_28 v < f12_20 v := hlt
  have hcp : cpN 65536 (Lq (f12_17 v)) v.x = cnd (f12_29 v) sl0 (slN (gN (Lq (f12_17 v)) (f12_28 v).toNat)) := rfl
  have h29d : f12_29 v = cnd (mayT 65536 v.x != 0) true (decide (f12_28 v < 0)) := rfl
  have h27 : f12_27 v = mayT 65536 v.x := rfl
  have e30 : f12_30 v = (f12_28 v).toNat := Nat.zero_add _
  cases h29 : f12_29 v with
  | true =>
    rw [h29] at hcp
    have hcp : cpN 65536 (Lq (f12_17 v)) v.x = sl0 := hcp
    rw [hcp] at cc
    have k0 : (f12_31 v).k = 0 := congrArg Sl.k cc
    have k1 : (f12_31 v).a = 0 := congrArg Sl.a cc
    have k2 : (f12_31 v).b = 0 := congrArg Sl.b cc
    have k3 : (f12_31 v).r = 0 := congrArg Sl.r cc
    have k4 : (f12_31 v).g = 0 := congrArg Sl.g cc
    have k5 : (f12_31 v).s = 0 := congrArg Sl.s cc
    have k6 : (f12_31 v).m = 0 := congrArg Sl.m cc
    refine ⟨(fun e => by cases e), ?_⟩
    rw [k0, k1, k2, k3, k4, k5, k6, ce, h27]
    simp [cnd]
  | false =>
    rw [h29] at hcp
    have hcp : cpN 65536 (Lq (f12_17 v)) v.x = slN (gN (Lq (f12_17 v)) (f12_28 v).toNat) := hcp
    rw [h29] at h29d
    have hm : mayT 65536 v.x = 0 := by
      by_cases e : mayT 65536 v.x = 0
      · exact e
      · rw [bne_iff_ne.2 e] at h29d; cases h29d
    have hf : ¬ (f12_28 v < 0) := fun e => by
      rw [hm, decide_eq_true e] at h29d; cases h29d
    have hg : gN (Lq (f12_17 v)) (f12_28 v).toNat = ndf (f12_17 v).F4_0 (f12_17 v).F4_1 (f12_17 v).F4_2 (f12_17 v).F4_3 (f12_17 v).F4_4 (f12_17 v).F4_5 (f12_17 v).F4_6 (f12_17 v).F4_7 (f12_17 v).F4_8 (f12_28 v).toNat := gN_nds (by have : (f12_17 v).n7_1 = f12_20 v := rfl; omega)
    rw [hcp, hg] at cc
    have k0 : (f12_31 v).k = (f12_17 v).F4_1 (f12_28 v).toNat := congrArg Sl.k cc
    have k1 : (f12_31 v).a = (f12_17 v).F4_2 (f12_28 v).toNat := congrArg Sl.a cc
    have k2 : (f12_31 v).b = (f12_17 v).F4_3 (f12_28 v).toNat := congrArg Sl.b cc
    have k3 : (f12_31 v).r = (f12_17 v).F4_4 (f12_28 v).toNat := congrArg Sl.r cc
    have k4 : (f12_31 v).g = (f12_17 v).F4_5 (f12_28 v).toNat := congrArg Sl.g cc
    have k5 : (f12_31 v).s = (f12_17 v).F4_6 (f12_28 v).toNat := congrArg Sl.s cc
    have k6 : (f12_31 v).m = (f12_17 v).F4_7 (f12_28 v).toNat := congrArg Sl.m cc
    refine ⟨fun _ => ⟨by omega, hlt⟩, ?_⟩
    rw [k0, k1, k2, k3, k4, k5, k6, ce, hm, e30]
    simp [cnd]
theorem law12_true (v : V12) (hQ : v.Q = v.L) (ho : ∀ j, j < v.L → (Op.mk (v.ok j) (v.oa j) (v.ob j) (Sl.mk (v.kc j) (v.ac j) (v.bc j) (v.rc j) (v.gc j) (v.sc j) (v.mc j) 0 0 0)).R) (hx : U64 v.x) : (f12 v).ok ∧ f12_14 v = true := by
  by_cases h15 : f12_15 v = true
  · have w : ∀ {P : Prop}, f12_15 v = false → P := fun h => by rw [h15] at h; cases h
    refine ⟨⟨trivial, fun _ h => w h, fun _ h => w h, fun _ h => w h, fun _ h => w h, fun _ h => w h, fun _ h => w h, fun _ h => w h, fun _ h => w h, trivial⟩, ?_⟩
    unfold f12_14; rw [h15]; rfl
  · have h60 : v.L ≤ 60 := by
      unfold f12_15 at h15
      simp only [decide_eq_true_eq] at h15
      omega
    have h15 : f12_15 v = false := by simpa using h15
    have m0 : LT (r12_0 (f12_16 v)) _ ∧ Q12 (f12_16 v) (f12_17 v) := l12_0 (p := f12_16 v) (s := ⟨0, 0, 0, op0.1.M, 0, 0, colI (fun _ => []) 0, colI (fun _ => []) 1, colI (fun _ => []) 2, colI (fun _ => []) 3, colI (fun _ => []) 4, colI (fun _ => []) 5, colI (fun _ => []) 6, colI (fun _ => []) 7, colI (fun _ => []) 8⟩)
      ⟨rfl, hQ, h60, rfl⟩ ho ⟨rfl, rfl, rfl⟩ ⟨_, op0_rep⟩ rfl op0_R
    obtain ⟨lt0, q0, hN, hn, ⟨σ, hr⟩, hz, ht⟩ := m0
    have h18 : f12_18 v = false := by unfold f12_18; rw [q0]; rfl
    have m1 : LT (r12_1 (f12_25 v)) (S12_1.mk 0) ∧ e12_1_0 (f12_25 v) (f12z0 v) = true := l12_1 (p := f12_25 v) (s := ⟨0⟩) ⟨rfl, rfl, hN, hn⟩ (σ := σ) hr ht rfl
    have h26 : f12_26 v = false := by unfold f12_26; rw [m1.2]; rfl
    have hr : RepS ⟨f12_24 v, f12_22 v, f12_23 v⟩ (Lq (f12_17 v)) σ := hr
    have ht : TR ⟨f12_24 v, f12_22 v, f12_23 v⟩ := ht
    obtain ⟨hi, hA⟩ := cap12 hr hz hx
    have h32 : f12_32 v = true := by unfold f12_32; rw [hA]; rfl
    have hL : (Lq (f12_17 v)).length = (f12_17 v).n7_1 := nds_len _ _
    have hb : blw (f12_24 v) (f12_23 v) v.x = bwL (Lq (f12_17 v)) v.x := hr.below (by omega) hx
    have hbl := bwL_len (Lq (f12_17 v)) v.x
    have hcc : f12_23 v ≤ 100000 := by
      have h1 : f12_23 v = (Lq (f12_17 v)).length := hr.c
      omega
    have p58 : pre58 (V58.mk v.x (f12_22 v) (f12_23 v) (f12_24 v)) := ⟨hx, ht, hcc⟩
    have p66 : (f12_19 v = f12_20 v ∧ f12_20 v ≤ 100000) := ⟨hN, by have : (f12_17 v).n7_1 = f12_20 v := rfl; omega⟩
    have p62 : ∀ (p q : Nat → Int), pre62 (V62.mk (f12_33 v) (f12_35 v) (f12_34 v) p (f12_36 v) q) := fun p q => ⟨by show f12_33 v ≤ f12_34 v; unfold f12_34; rw [h32]; exact Nat.le_refl _, by show f12_35 v ≤ f12_36 v; unfold f12_36; rw [h32]; exact Nat.le_refl _, by show (blw (f12_24 v) (f12_23 v) v.x).length ≤ 1000000; rw [hb]; omega⟩
    have p59 : pre59 (V59.mk v.x (f12_22 v) (f12_23 v) (f12_24 v)) := hx
    have p60 : pre60 (V60.mk v.x (f12_22 v) (f12_23 v) (f12_24 v)) := ⟨hx, ht⟩
    refine ⟨⟨trivial, fun _ _ => trivial, fun _ _ _ => lt0, fun _ _ _ _ => m1.1, fun _ _ _ _ _ => hx, fun _ _ _ _ _ => p66, fun _ _ _ _ _ h => hi h, fun _ _ _ _ _ h => ?_, ?_, trivial⟩, ?_⟩
    · have := hi h
      show f12_30 v < f12_19 v
      have e30 : f12_30 v = (f12_28 v).toNat := Nat.zero_add _
      rw [p66.1, e30]; omega
    · intro _ _ _ _ _
      repeat' first | exact p58 | exact p66 | exact p62 _ _ | exact p59 | exact p60 | rfl | intro _ | apply And.intro
    · unfold f12_14
      rw [h15, h18, h26, hA]
      have hd : decide (ls (fun j => (blw (f12_24 v) (f12_23 v) v.x).getD j 0) (f12_33 v) = ls (fun j => (bwL (Lq (f12_17 v)) v.x).getD j 0) (f12_35 v)) = true := by
        have e35 : f12_35 v = (bwL (Lq (f12_17 v)) v.x).length := rfl
        unfold f12_33
        rw [hb, e35]
        simp
      have hd2 : cnd (f12_37 v) true (cnd (dpE (f12_24 v) v.x == -1) (brB (f12_24 v) v.x) false) = true := by
        cases h37 : f12_37 v with
        | true => rfl
        | false =>
          have hf : fnd (Lq (f12_17 v)) v.x < 0 := by
            have h37 : decide (fnd (Lq (f12_17 v)) v.x ≥ 0) = false := h37
            simpa using h37
          obtain ⟨b1, b2⟩ := hr.bareN hx hf
          have b1 : dpE (f12_24 v) v.x = -1 := b1
          have b2 : brB (f12_24 v) v.x = true := b2
          rw [b1, b2]; rfl
      rw [hd2]
      refine Eq.trans ?_ (rfl : cnd false true (cnd false false (cnd false false (cnd (cnd true true false) true false))) = true)
      exact congrArg (fun b => cnd false true (cnd false false (cnd false false (cnd (cnd true b false) true false)))) hd
set_option maxRecDepth 100000
def pre12 (v : V12) : Prop := v.Q = v.L ∧ (∀ j, j < v.L → (Op.mk (v.ok j) (v.oa j) (v.ob j) (Sl.mk (v.kc j) (v.ac j) (v.bc j) (v.rc j) (v.gc j) (v.sc j) (v.mc j) 0 0 0)).R) ∧ U64 v.x
theorem n12 (v : V12) (h : pre12 v) : (f12 v).ok ∧ (f12 v).get.1 = .bool true ∧ HOws (f12 v).get.2.1 [HO.ro 85 10 v.Q (fun j => [.int .i64 (v.ok j), .int .u64 (v.oa j), .int .u64 (v.ob j), .int .i64 (v.kc j), .int .u64 (v.ac j), .int .i64 (v.bc j), .int .i64 (v.rc j), .int .i64 (v.gc j), .int .i64 (v.sc j), .int .u64 (v.mc j)]) v.ob_] := by
  obtain ⟨k1, k2⟩ := law12_true v h.1 h.2.1 h.2.2
  exact ⟨k1, congrArg SV.bool k2, .refl _⟩
noncomputable def f12n (v : V12) : Tr (Fin th.R) := .need (pre12 v) (.leaf (.bool true, [.ro 85 10 v.Q (fun j => [.int .i64 (v.ok j), .int .u64 (v.oa j), .int .u64 (v.ob j), .int .i64 (v.kc j), .int .u64 (v.ac j), .int .i64 (v.bc j), .int .i64 (v.rc j), .int .i64 (v.gc j), .int .i64 (v.sc j), .int .u64 (v.mc j)]) v.ob_], []))
theorem s12n : Sound Try.prog th 12 (fnC d12 ofV12 f12n) := fnC_refine s12 fun v h => by
  obtain ⟨hp, _⟩ := h
  obtain ⟨a, b, c⟩ := n12 v hp
  exact ⟨a, b.symm, (qdd12 v).symm, c, by show 1 ≤ 1; decide⟩
theorem claw12 (v : V12) : fnC d12 ofV12 f12n (A12 v) (H12 v) = some (.need (∀ i, i < v.Q → (fun j => [.int .i64 (v.ok j), .int .u64 (v.oa j), .int .u64 (v.ob j), .int .i64 (v.kc j), .int .u64 (v.ac j), .int .i64 (v.bc j), .int .i64 (v.rc j), .int .i64 (v.gc j), .int .i64 (v.sc j), .int .u64 (v.mc j)] : Nat → List SV) i = elC (fun j => [.int .i64 (v.ok j), .int .u64 (v.oa j), .int .u64 (v.ob j), .int .i64 (v.kc j), .int .u64 (v.ac j), .int .i64 (v.bc j), .int .i64 (v.rc j), .int .i64 (v.gc j), .int .i64 (v.sc j), .int .u64 (v.mc j)] : Nat → List SV) 0 [.int .i64, .int .u64, .int .u64, .int .i64, .int .u64, .int .i64, .int .i64, .int .i64, .int .i64, .int .u64] i) ((f12n v).map (fixF (H12 v)))) := by kernel_rfl
end Go.Sx.M

