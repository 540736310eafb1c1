/- Contracts of the functions of this seat, each by the executor and the kernel; part 3. Their conditions stand in each. -/
import Derived.Test.YtoldganbhlgboaaC2
set_option linter.unusedVariables false
set_option linter.unusedSimpArgs false
namespace Go.Sx.M
open Go Go.Sx Go.Proofs Go.RowKit
theorem plc_len (to : Int) (k b n : Nat → Int) : ∀ (m i : Nat) (a : Int), (plc to k b n m i a).1.length ≤ 64 * m ∧ (plc to k b n m i a).2.1 ≤ m
  | 0, _, _ => ⟨Nat.le_refl _, Nat.le_refl _⟩
  | m + 1, i, a => by
    unfold plc
    split
    · exact ⟨Nat.zero_le _, Nat.zero_le _⟩
    · rename_i he
      split
      · exact ⟨Nat.zero_le _, Nat.zero_le _⟩
      · obtain ⟨h1, h2⟩ := plc_len to k b n m (i + 1) (f98_0 a (f97_0 (k i) (b i)) + f95_1 (k i) (b i) (n i))
        have hn : (n i).toNat ≤ 64 := by
          rcases (want_cases (k i) (b i) (n i)).2 with ⟨_, h⟩ | ⟨_, h⟩ | ⟨z, _, _, _, _, ⟨_, h⟩ | ⟨q1, q2, _, _⟩⟩ <;> omega
        refine ⟨?_, by show _ + 1 ≤ m + 1; omega⟩
        rw [List.length_append, objs_len]
        omega
theorem l3i {p : P3_1} {s : S3_1} {bs K : Nat} (hm : 1 ≤ p.x111 ∧ p.x111 ≤ 64) (hK : p.n7 = K ∧ p.N1 = K ∧ bs + p.x111.toNat ≤ K ∧ K ≤ 5000) (hP : 0 ≤ p.x15 ∧ p.x15 ≤ 4294967296) (hf : 0 ≤ p.x16 ∧ p.x16 ≤ 1099511627776)
    (hF : ∀ t : Nat, t < p.x111.toNat → p.F1_0 (bs + t) = p.x16 + (t : Int) * p.x15) (hs : s.x10 = bs ∧ s.x112 = 0) : LT (r3_1 p) s ∧ (e3_1_0 p (lastS (r3_1 p) s) = true ∧ (lastS (r3_1 p) s).x10 = ((bs + p.x111.toNat : Nat) : Int)) := by
  obtain ⟨k1, k2, k3, k4⟩ := hK
  refine LT.post (fun s1 : S3_1 => ∃ t : Nat, s1.x112 = t ∧ t ≤ p.x111.toNat ∧ s1.x10 = ((bs + t : Nat) : Int)) (fun s1 : S3_1 => e3_1_0 p s1 = true ∧ s1.x10 = ((bs + p.x111.toNat : Nat) : Int)) (fun s1 : S3_1 => (p.x111 - s1.x112).toNat) ?_ ⟨0, hs.2, by omega, by rw [hs.1]; rfl⟩
  rintro ⟨x10, x112⟩ ⟨t, g1, g2, g3⟩
  simp only at g1 g3
  subst g1 g3
  have w2 : IntKind.i64.wrap ((t : Int) + 1) = ((t + 1 : Nat) : Int) := by rw [wi (by omega) (by omega)]; omega
  have w3 : IntKind.i64.wrap (((bs + t : Nat) : Int) + 1) = ((bs + (t + 1) : Nat) : Int) := by rw [wi (by omega) (by omega)]; omega
  by_cases hc : (t : Int) < p.x111
  · have hd : e3_1_0 p ⟨((bs + t : Nat) : Int), t⟩ = false := by
      show cnd (decide ((t : Int) < p.x111)) false true = false
      rw [decide_eq_true hc]; rfl
    have e8 : e3_1_8 p ⟨((bs + t : Nat) : Int), t⟩ = false := by
      show decide (((bs + t : Nat) : Int) ≥ (p.n7 : Int)) = false
      rw [k1]
      exact decide_eq_false (by omega)
    have e9 : e3_1_9 p ⟨((bs + t : Nat) : Int), t⟩ = bs + t := by
      show 0 + (((bs + t : Nat) : Int)).toNat = bs + t
      omega
    have e4 : e3_1_4 p ⟨((bs + t : Nat) : Int), t⟩ = false := by
      unfold e3_1_4
      rw [e8, e9, hF t (by omega)]
      have hle : (t : Int) * p.x15 ≤ 64 * 4294967296 := by
        have h1 : (t : Int) * p.x15 ≤ 64 * p.x15 := Int.mul_le_mul_of_nonneg_right (by omega) (by omega)
        omega
      have hge : 0 ≤ (t : Int) * p.x15 := Int.mul_nonneg (by omega) (by omega)
      show (p.x16 + (t : Int) * p.x15 != IntKind.u64.wrap (p.x16 + IntKind.u64.wrap (IntKind.u64.wrap (t : Int) * p.x15))) = false
      rw [wrap_u64_id (x := (t : Int)) (by omega) (by omega), wrap_u64_id hge (by omega), wrap_u64_id (by omega) (by omega)]
      exact bne_self_eq_false _
    simp only [r3_1, hd, e4, Tr.ok, Tr.get]
    refine ⟨⟨(fun e => by cases e), fun _ => ⟨fun _ => ⟨by show (0 : Int) ≤ ((bs + t : Nat) : Int); omega, by show ((bs + t : Nat) : Int) < (p.n7 : Int); omega⟩, fun _ => by rw [e9, k2]; omega, (fun e => by cases e), fun _ => trivial⟩⟩, .inr ⟨_, rfl, ⟨t + 1, w2, by omega, w3⟩, ?_⟩⟩
    show (p.x111 - e3_1_7 p _).toNat < (p.x111 - (t : Int)).toNat
    simp only [e3_1_7, w2]
    omega
  · have hd : e3_1_0 p ⟨((bs + t : Nat) : Int), t⟩ = true := by
      show cnd (decide ((t : Int) < p.x111)) false true = true
      rw [decide_eq_false hc]; rfl
    have ht : p.x111.toNat = t := by omega
    have : LT (r3_1 p) ⟨((bs + t : Nat) : Int), t⟩ → True := fun _ => trivial
    refine ⟨?_, .inl ⟨?_, hd, by rw [ht]⟩⟩
    · simp only [r3_1, hd, Tr.ok]
      exact ⟨fun _ => trivial, (fun e => by cases e)⟩
    · simp only [r3_1, hd, Tr.get]
      exact ⟨_, _, _, rfl⟩
def Q3 (p : P3_0) (s : S3_0) : Prop := (e3_0_0 p s = true ∧ p.x9 = 0 ∧ p.x8 = p.n39 ∧ (p.n7 : Int) = s.x10) ∨ (e3_0_0 p s = false ∧ e3_0_7 p s = true ∧ e3_0_8 p s = true)
theorem l3 {p : P3_0} {s : S3_0} {R : List Int × Nat × Int} (hN : p.N0 = p.n39 ∧ p.n39 ≤ 20 ∧ p.x40 = p.n39) (ht : 0 ≤ p.x1 ∧ p.x1 ≤ 1099511627776) (ha : 0 ≤ s.x0 ∧ s.x0 ≤ 1099511627776) (hs : s.x10 = 0 ∧ s.x41 = 0)
    (hR : plc p.x1 p.F0_0 p.F0_1 p.F0_2 p.n39 0 s.x0 = R) (h7 : p.n7 = R.1.length ∧ p.N1 = R.1.length) (h8 : p.x8 = R.2.1) (h9 : p.x9 = R.2.2) (hF : ∀ j, p.F1_0 j = R.1.getD j 0) :
    LT (r3_0 p) s ∧ Q3 p (lastS (r3_0 p) s) := by
  have hbd := plc_len p.x1 p.F0_0 p.F0_1 p.F0_2 p.n39 0 s.x0
  rw [hR] at hbd
  refine LT.post (fun s : S3_0 => ∃ (i m : Nat) (pre : List Int), s.x41 = i ∧ i + m = p.n39 ∧ (0 ≤ s.x0 ∧ s.x0 ≤ 1099511627776) ∧ s.x10 = pre.length ∧ R = (pre ++ (plc p.x1 p.F0_0 p.F0_1 p.F0_2 m i s.x0).1, i + (plc p.x1 p.F0_0 p.F0_1 p.F0_2 m i s.x0).2.1, (plc p.x1 p.F0_0 p.F0_1 p.F0_2 m i s.x0).2.2)) (Q3 p) (fun s : S3_0 => (p.n39 - s.x41).toNat) ?_ ?_
  rotate_left
  · refine ⟨0, p.n39, [], hs.2, by omega, ha, hs.1, ?_⟩
    rw [hR]
    simp
  rintro ⟨a, x10, x⟩ ⟨i, m, pre, g1, g2, g5, g4, g6⟩
  simp only at g1 g4 g5 g6
  subst g1 g4
  obtain ⟨hN1, hN2, hN3⟩ := hN
  obtain ⟨K1, K2⟩ := h7
  have w2 : IntKind.i64.wrap ((i : Int) + 1) = ((i + 1 : Nat) : Int) := by rw [wi (by omega) (by omega)]; omega
  have hR1 : R.1.length ≤ 1280 := by omega
  by_cases hc : i < p.n39
  · have hd : e3_0_0 p ⟨a, pre.length, i⟩ = false := by
      show cnd (decide ((i : Int) < p.x40)) false true = false
      rw [decide_eq_true (by omega)]; rfl
    obtain ⟨m', rfl⟩ : ∃ m', m = m' + 1 := ⟨m - 1, by omega⟩
    have i16 : e3_0_16 p ⟨a, pre.length, i⟩ = i := by show 0 + (i : Int).toNat = i; omega
    have e17 : e3_0_17 p ⟨a, pre.length, i⟩ = p.F0_0 i := by unfold e3_0_17; rw [i16]
    have e18 : e3_0_18 p ⟨a, pre.length, i⟩ = p.F0_1 i := by unfold e3_0_18; rw [i16]
    have e22 : e3_0_22 p ⟨a, pre.length, i⟩ = p.F0_2 i := by unfold e3_0_22; rw [i16]
    have e19 : e3_0_19 p ⟨a, pre.length, i⟩ = f25_0 (p.F0_0 i) (p.F0_1 i) := by unfold e3_0_19; rw [e17, e18]
    have n2 : e3_0_2 p ⟨a, pre.length, i⟩ := ⟨by show (0 : Int) ≤ i; omega, by show (i : Int) < p.n39; omega⟩
    have n3 : e3_0_3 p ⟨a, pre.length, i⟩ := by unfold e3_0_3; rw [i16, hN1]; exact hc
    obtain ⟨q0, qc⟩ := want_cases (p.F0_0 i) (p.F0_1 i) (p.F0_2 i)
    simp only [plc] at g6
    -- what stops
    have stop : ∀ er : Int, er ≠ 0 → e3_0_31 p ⟨a, pre.length, i⟩ = er → R = (pre, i, er) → e3_0_7 p ⟨a, pre.length, i⟩ = true ∧ e3_0_8 p ⟨a, pre.length, i⟩ = true := by
      intro er h0 h1 h2
      constructor
      · unfold e3_0_7; rw [h1]; exact bne_iff_ne.2 h0
      · unfold e3_0_8
        rw [h1, h9, h8, K1, h2]
        simp [cnd]
    by_cases he : f95_2 (p.F0_0 i) (p.F0_1 i) (p.F0_2 i) = 0
    · rw [if_neg (by simp [he])] at g6
      obtain ⟨z, z0, z1, hz, h97, hmm⟩ : ∃ z, 5 ≤ z ∧ z ≤ 32 ∧ f25_0 (p.F0_0 i) (p.F0_1 i) = z ∧ f97_0 (p.F0_0 i) (p.F0_1 i) = z ∧ (1 ≤ p.F0_2 i ∧ p.F0_2 i ≤ 64 ∧ f95_1 (p.F0_0 i) (p.F0_1 i) (p.F0_2 i) = p.F0_2 i * ((2 ^ z.toNat : Nat) : Int)) := by
        rcases qc with ⟨_, h⟩ | ⟨_, h⟩ | ⟨z, z0, z1, z2, z3, ⟨_, h⟩ | ⟨h1, h2, _, h3⟩⟩
        · omega
        · omega
        · omega
        · exact ⟨z, z0, z1, z2, z3, h1, h2, h3⟩
      obtain ⟨u1, u2, u3, u4⟩ := up_at g5.1 g5.2 z0 z1
      rw [h97, u2] at g6
      obtain ⟨p1, p2⟩ := pow_z z0 z1
      have hge : 0 ≤ f95_1 (p.F0_0 i) (p.F0_1 i) (p.F0_2 i) := by rw [hmm.2.2]; exact Int.mul_nonneg (by omega) (by omega)
      have hlt : f95_1 (p.F0_0 i) (p.F0_1 i) (p.F0_2 i) ≤ 274877906944 := by
        rw [hmm.2.2]
        have h1 : p.F0_2 i * ((2 ^ z.toNat : Nat) : Int) ≤ 64 * ((2 ^ z.toNat : Nat) : Int) := Int.mul_le_mul_of_nonneg_right (by omega) (by omega)
        omega
      have e20 : e3_0_20 p ⟨a, pre.length, i⟩ = false := by unfold e3_0_20; rw [e19, hz]; exact beq_eq_false_iff_ne.2 (by omega)
      have e21 : e3_0_21 p ⟨a, pre.length, i⟩ = false := by unfold e3_0_21; rw [e19, hz]; exact beq_eq_false_iff_ne.2 (by omega)
      have e23 : e3_0_23 p ⟨a, pre.length, i⟩ = false := by unfold e3_0_23; rw [e22, decide_eq_false (by omega), decide_eq_false (by omega)]; rfl
      have e24 : e3_0_24 p ⟨a, pre.length, i⟩ = ((2 ^ z.toNat : Nat) : Int) := by unfold e3_0_24; rw [e19, hz]; exact p26_eq (by omega)
      have e25 : e3_0_25 p ⟨a, pre.length, i⟩ = a % ((2 ^ z.toNat : Nat) : Int) := by
        unfold e3_0_25
        rw [e24]
        exact Int.tmod_eq_emod_of_nonneg g5.1
      have hml := Int.emod_lt_of_pos a (show (0 : Int) < ((2 ^ z.toNat : Nat) : Int) by omega)
      have hmg := Int.emod_nonneg a (show ((2 ^ z.toNat : Nat) : Int) ≠ 0 by omega)
      have e27 : e3_0_27 p ⟨a, pre.length, i⟩ = upI a ((2 ^ z.toNat : Nat) : Int) := by
        unfold e3_0_27 e3_0_26 upI
        rw [e25, e24]
        generalize a % ((2 ^ z.toNat : Nat) : Int) = r at hml hmg ⊢
        generalize 2 ^ z.toNat = P at *
        by_cases hr : r = 0
        · rw [if_pos hr, hr]; rfl
        · rw [if_neg hr, bne_iff_ne.2 hr, cnd_t, wrap_u64_id (x := (P : Int) - r) (by omega) (by omega)]
          exact wrap_u64_id (by show 0 ≤ a + ((P : Int) - r); omega) (by show a + ((P : Int) - r) < _; omega)
      have e28 : e3_0_28 p ⟨a, pre.length, i⟩ = p.F0_2 i := by unfold e3_0_28; rw [e22]; exact wrap_u64_id (by omega) (by omega)
      have e29 : e3_0_29 p ⟨a, pre.length, i⟩ = f95_1 (p.F0_0 i) (p.F0_1 i) (p.F0_2 i) := by
        unfold e3_0_29
        rw [e24, e28, Int.mul_comm, ← hmm.2.2]
        exact wrap_u64_id (by omega) (by omega)
      have e31 : e3_0_31 p ⟨a, pre.length, i⟩ = cnd (decide (upI a ((2 ^ z.toNat : Nat) : Int) > p.x1 ∨ f95_1 (p.F0_0 i) (p.F0_1 i) (p.F0_2 i) > p.x1 - upI a ((2 ^ z.toNat : Nat) : Int))) 40 0 := by
        unfold e3_0_31 e3_0_30
        rw [e20, e21, e23, e27, e29]
        generalize upI a ((2 ^ z.toNat : Nat) : Int) = U at u3 u4 ⊢
        generalize f95_1 (p.F0_0 i) (p.F0_1 i) (p.F0_2 i) = NB
        by_cases h1 : U > p.x1
        · rw [decide_eq_true h1, decide_eq_true (Or.inl h1)]; rfl
        · rw [decide_eq_false h1, wrap_u64_id (x := p.x1 - U) (by omega) (by omega)]
          by_cases h2 : NB > p.x1 - U
          · rw [decide_eq_true h2, decide_eq_true (Or.inr h2)]; rfl
          · rw [decide_eq_false h2, decide_eq_false (by omega)]; rfl
      have n4 : e3_0_4 p ⟨a, pre.length, i⟩ := fun _ _ _ => by rw [e19, hz]; omega
      have n5 : e3_0_5 p ⟨a, pre.length, i⟩ := fun _ _ _ => by rw [e24]; omega
      have n6 : e3_0_6 p ⟨a, pre.length, i⟩ := fun _ _ _ _ => by rw [e24]; omega
      by_cases hb : upI a ((2 ^ z.toNat : Nat) : Int) > p.x1 ∨ f95_1 (p.F0_0 i) (p.F0_1 i) (p.F0_2 i) > p.x1 - upI a ((2 ^ z.toNat : Nat) : Int)
      · rw [if_pos hb] at g6
        rw [decide_eq_true hb] at e31
        obtain ⟨t1, t2⟩ := stop 40 (by omega) e31 (by rw [g6]; simp)
        simp only [r3_0, hd, t1, Tr.ok, Tr.get]
        exact ⟨⟨(fun e => by cases e), fun _ => ⟨n2, n3, n4, n5, n6, fun _ => trivial, (fun e => by cases e)⟩⟩, .inl ⟨⟨_, _, _, rfl⟩, .inr ⟨hd, t1, t2⟩⟩⟩
      · rw [if_neg hb] at g6
        rw [decide_eq_false hb] at e31
        have e7 : e3_0_7 p ⟨a, pre.length, i⟩ = false := by unfold e3_0_7; rw [e31]; rfl
        have e32 : e3_0_32 p ⟨a, pre.length, i⟩ = ((2 ^ z.toNat : Nat) : Int) := by unfold e3_0_32; rw [e20, e21, e23, e24]; rfl
        have e33 : e3_0_33 p ⟨a, pre.length, i⟩ = upI a ((2 ^ z.toNat : Nat) : Int) := by unfold e3_0_33; rw [e20, e21, e23, e27]; rfl
        have hG : R.1 = pre ++ (objs (upI a ((2 ^ z.toNat : Nat) : Int)) ((2 ^ z.toNat : Nat) : Int) (p.F0_2 i).toNat ++ (plc p.x1 p.F0_0 p.F0_1 p.F0_2 m' (i + 1) (upI a ((2 ^ z.toNat : Nat) : Int) + f95_1 (p.F0_0 i) (p.F0_1 i) (p.F0_2 i))).1) := congrArg (fun x => x.1) g6
        have hGl : pre.length + (p.F0_2 i).toNat ≤ R.1.length := by rw [hG, List.length_append, List.length_append, objs_len]; omega
        have hin := l3i (p := e3_0_34 p ⟨a, pre.length, i⟩) (s := S3_1.mk pre.length 0) (bs := pre.length) (K := R.1.length)
          (by show 1 ≤ e3_0_22 p _ ∧ e3_0_22 p _ ≤ 64; rw [e22]; exact ⟨hmm.1, hmm.2.1⟩)
          ⟨K1, K2, by show pre.length + (e3_0_22 p _).toNat ≤ _; rw [e22]; exact hGl, by omega⟩
          (by show 0 ≤ e3_0_32 p _ ∧ e3_0_32 p _ ≤ _; rw [e32]; omega) (by show 0 ≤ e3_0_33 p _ ∧ e3_0_33 p _ ≤ _; rw [e33]; omega)
          (by
            intro t ht'
            have ht' : t < (e3_0_22 p ⟨a, pre.length, i⟩).toNat := ht'
            rw [e22] at ht'
            show p.F1_0 (pre.length + t) = e3_0_33 p ⟨a, pre.length, i⟩ + (t : Int) * e3_0_32 p ⟨a, pre.length, i⟩
            rw [hF, e33, e32, hG, List.getD_eq_getElem?_getD, List.getElem?_append_right (by omega), show pre.length + t - pre.length = t by omega, List.getElem?_append_left (by rw [objs_len]; exact ht')]
            simp [objs, ht']) ⟨rfl, rfl⟩
        obtain ⟨hL, k1, k2⟩ := hin
        have e35 : e3_0_35 p ⟨a, pre.length, i⟩ = lastS (r3_1 (e3_0_34 p ⟨a, pre.length, i⟩)) (S3_1.mk pre.length 0) := rfl
        rw [← e35] at k1 k2
        have k2 : (e3_0_35 p ⟨a, pre.length, i⟩).x10 = ((pre.length + (e3_0_22 p ⟨a, pre.length, i⟩).toNat : Nat) : Int) := k2
        rw [e22] at k2
        have e11 : e3_0_11 p ⟨a, pre.length, i⟩ = false := by unfold e3_0_11; rw [k1]; rfl
        have e14 : e3_0_14 p ⟨a, pre.length, i⟩ = upI a ((2 ^ z.toNat : Nat) : Int) + f95_1 (p.F0_0 i) (p.F0_1 i) (p.F0_2 i) := by
          unfold e3_0_14
          rw [e33, e32, e28, Int.mul_comm, ← hmm.2.2, wrap_u64_id (x := f95_1 (p.F0_0 i) (p.F0_1 i) (p.F0_2 i)) (by omega) (by omega)]
          exact wrap_u64_id (by omega) (by omega)
        simp only [r3_0, hd, e7, e11, Tr.ok, Tr.get]
        refine ⟨⟨(fun e => by cases e), fun _ => ⟨n2, n3, n4, n5, n6, (fun e => by cases e), fun _ => ⟨hL, (fun e => by cases e), fun _ => trivial⟩⟩⟩, .inr ⟨_, rfl, ⟨i + 1, m', pre ++ objs (upI a ((2 ^ z.toNat : Nat) : Int)) ((2 ^ z.toNat : Nat) : Int) (p.F0_2 i).toNat, w2, by omega, ?_, ?_, ?_⟩, ?_⟩⟩
        · show 0 ≤ e3_0_14 p _ ∧ e3_0_14 p _ ≤ _
          rw [e14]; omega
        · show e3_0_12 p _ = _
          unfold e3_0_12
          rw [k2, List.length_append, objs_len]
        · show R = (_ ++ (plc p.x1 p.F0_0 p.F0_1 p.F0_2 m' (i + 1) (e3_0_14 p ⟨a, pre.length, i⟩)).1, i + 1 + (plc p.x1 p.F0_0 p.F0_1 p.F0_2 m' (i + 1) (e3_0_14 p ⟨a, pre.length, i⟩)).2.1, (plc p.x1 p.F0_0 p.F0_1 p.F0_2 m' (i + 1) (e3_0_14 p ⟨a, pre.length, i⟩)).2.2)
          rw [e14, g6, List.append_assoc]
          simp only [Prod.mk.injEq]
          exact ⟨trivial, by omega, trivial⟩
        · show ((p.n39 : Int) - e3_0_15 p _).toNat < ((p.n39 : Int) - (i : Int)).toNat
          simp only [e3_0_15, w2]
          omega
    · rw [if_pos he] at g6
      have g6 : R = (pre, i, f95_2 (p.F0_0 i) (p.F0_1 i) (p.F0_2 i)) := by rw [g6]; simp
      have hzz : e3_0_31 p ⟨a, pre.length, i⟩ = f95_2 (p.F0_0 i) (p.F0_1 i) (p.F0_2 i) ∧ (e3_0_20 p ⟨a, pre.length, i⟩ = true ∨ e3_0_21 p ⟨a, pre.length, i⟩ = true ∨ e3_0_23 p ⟨a, pre.length, i⟩ = true) := by
        rcases qc with ⟨h1, h2⟩ | ⟨h1, h2⟩ | ⟨z, z0, z1, z2, z3, ⟨h1, h2⟩ | ⟨h1, h2, h3, _⟩⟩
        · have e20 : e3_0_20 p ⟨a, pre.length, i⟩ = true := by unfold e3_0_20; rw [e19, h1]; rfl
          exact ⟨by unfold e3_0_31; rw [e20, h2]; rfl, .inl e20⟩
        · have e20 : e3_0_20 p ⟨a, pre.length, i⟩ = false := by unfold e3_0_20; rw [e19, h1]; rfl
          have e21 : e3_0_21 p ⟨a, pre.length, i⟩ = true := by unfold e3_0_21; rw [e19, h1]; rfl
          exact ⟨by unfold e3_0_31; rw [e20, e21, h2]; rfl, .inr (.inl e21)⟩
        · have e20 : e3_0_20 p ⟨a, pre.length, i⟩ = false := by unfold e3_0_20; rw [e19, z2]; exact beq_eq_false_iff_ne.2 (by omega)
          have e21 : e3_0_21 p ⟨a, pre.length, i⟩ = false := by unfold e3_0_21; rw [e19, z2]; exact beq_eq_false_iff_ne.2 (by omega)
          have e23 : e3_0_23 p ⟨a, pre.length, i⟩ = true := by
            unfold e3_0_23
            rw [e22, cnd_or, Bool.or_eq_true, decide_eq_true_eq, decide_eq_true_eq]
            exact h1
          exact ⟨by unfold e3_0_31; rw [e20, e21, e23, h2]; rfl, .inr (.inr e23)⟩
        · exact absurd h3 he
      obtain ⟨t1, t2⟩ := stop _ he hzz.1 g6
      have nn : e3_0_4 p ⟨a, pre.length, i⟩ ∧ e3_0_5 p ⟨a, pre.length, i⟩ ∧ e3_0_6 p ⟨a, pre.length, i⟩ := by
        rcases hzz.2 with h | h | h
        · exact ⟨(fun e => by rw [h] at e; cases e), (fun e => by rw [h] at e; cases e), (fun e => by rw [h] at e; cases e)⟩
        · exact ⟨(fun _ e => by rw [h] at e; cases e), (fun _ e => by rw [h] at e; cases e), (fun _ e => by rw [h] at e; cases e)⟩
        · exact ⟨(fun _ _ e => by rw [h] at e; cases e), (fun _ _ e => by rw [h] at e; cases e), (fun _ _ e => by rw [h] at e; cases e)⟩
      simp only [r3_0, hd, t1, Tr.ok, Tr.get]
      exact ⟨⟨(fun e => by cases e), fun _ => ⟨n2, n3, nn.1, nn.2.1, nn.2.2, fun _ => trivial, (fun e => by cases e)⟩⟩, .inl ⟨⟨_, _, _, rfl⟩, .inr ⟨hd, t1, t2⟩⟩⟩
  · have hd : e3_0_0 p ⟨a, pre.length, i⟩ = true := by
      show cnd (decide ((i : Int) < p.x40)) false true = true
      rw [decide_eq_false (by omega)]; rfl
    have : m = 0 := by omega
    subst this
    simp only [plc] at g6
    have g6 : R = (pre, i, 0) := by rw [g6]; simp
    simp only [r3_0, hd, Tr.ok, Tr.get]
    refine ⟨⟨fun _ => trivial, (fun e => by cases e)⟩, .inl ⟨⟨_, _, _, rfl⟩, .inl ⟨hd, ?_, ?_, ?_⟩⟩⟩
    · rw [h9, g6]
    · rw [h8, g6]; show (i : Int) = p.n39; omega
    · rw [K1, g6]
theorem law3_true (v : V3) (hQ : v.Q = v.L) (ha : U64 v.at_) (ht : U64 v.to_) : (f3 v).ok ∧ f3_7 v = true := by
  have hd : f3_8 v = false → v.L ≤ 20 ∧ v.at_ ≤ 1099511627776 ∧ v.to_ ≤ 1099511627776 := fun h => by
    unfold f3_8 at h
    simp only [cnd_or, Bool.or_eq_false_iff, decide_eq_false_iff_not] at h
    omega
  have main : f3_8 v = false → LT (r3_0 (f3_12 v)) (f3_13 v) ∧ Q3 (f3_12 v) (f3_14 v) := fun h => by
    obtain ⟨h1, h2, h3⟩ := hd h
    exact l3 (p := f3_12 v) (s := f3_13 v) (R := plc v.to_ v.k v.b v.n v.L 0 v.at_) ⟨hQ, h1, rfl⟩ ⟨ht.1, h3⟩ ⟨ha.1, h2⟩ ⟨rfl, rfl⟩ rfl ⟨rfl, rfl⟩ rfl rfl (fun _ => rfl)
  refine ⟨⟨trivial, fun _ h => ?_, fun _ h => (main h).1, trivial⟩, ?_⟩
  · obtain ⟨h1, h2, h3⟩ := hd h
    exact ⟨⟨hQ, h1⟩, ⟨ha.1, h2⟩, ⟨ht.1, h3⟩⟩
  · unfold f3_7
    cases h8 : f3_8 v with
    | true => rfl
    | false =>
      obtain ⟨_, q | ⟨q1, q2, q3⟩⟩ := main h8
      · obtain ⟨q1, q2, q3, q4⟩ := q
        have q2 : f3_11 v = 0 := q2
        have q3 : f3_10 v = (v.L : Int) := q3
        have q4 : (f3_9 v : Int) = (f3_14 v).x10 := q4
        rw [q1, q2, q3, q4]
        simp [cnd]
      · rw [q1, q2, q3]
        rfl
end Go.Sx.M

namespace Go.Sx.M
open Go Go.Sx Go.Proofs Go.RowKit
set_option maxRecDepth 100000
def pre3 (v : V3) : Prop := v.Q = v.L ∧ U64 v.at_ ∧ U64 v.to_
theorem n3 (v : V3) (h : pre3 v) : (f3 v).ok ∧ (f3 v).get.1 = .bool true ∧ HOws (f3 v).get.2.1 [HO.ro 30 3 v.Q (fun j => [.int .i64 (v.k j), .int .i64 (v.b j), .int .i64 (v.n j)]) v.ob] := by
  obtain ⟨k1, k2⟩ := law3_true v h.1 h.2.1 h.2.2
  exact ⟨k1, congrArg SV.bool k2, .refl _⟩
noncomputable def f3n (v : V3) : Tr (Fin th.R) := .need (pre3 v) (.leaf (.bool true, [.ro 30 3 v.Q (fun j => [.int .i64 (v.k j), .int .i64 (v.b j), .int .i64 (v.n j)]) v.ob], []))
theorem s3n : Sound Try.prog th 3 (fnC d3 ofV3 f3n) := fnC_refine s3 fun v h => by
  obtain ⟨hp, _⟩ := h
  obtain ⟨a, b, c⟩ := n3 v hp
  exact ⟨a, b.symm, (qdd3 v).symm, c, by show 1 ≤ 1; decide⟩
theorem claw3 (v : V3) : fnC d3 ofV3 f3n (A3 v) (H3 v) = some (.need (∀ i, i < v.Q → (fun j => [.int .i64 (v.k j), .int .i64 (v.b j), .int .i64 (v.n j)] : Nat → List SV) i = elC (fun j => [.int .i64 (v.k j), .int .i64 (v.b j), .int .i64 (v.n j)] : Nat → List SV) 0 [.int .i64, .int .i64, .int .i64] i) ((f3n v).map (fixF (H3 v)))) := by kernel_rfl
end Go.Sx.M

