/- Contracts of the functions of this seat, each by the executor and the kernel; part 6. Their conditions stand in each. -/
import Derived.Test.YtoldganbhlgboaaC5
set_option linter.unusedVariables false
set_option linter.unusedSimpArgs false
set_option linter.unnecessarySimpa false
namespace Go.Sx.M
open Go Go.Sx Go.Proofs Go.RowKit
set_option maxRecDepth 100000
structure S36r_0 where
  x26 : Int
  R2 : th.R
  n6_1 : Nat
  xh4_1 : Int
  xh4_2 : Int
  N5 : Nat
  F5_0 : Nat → Int
  F5_1 : Nat → Int
  F5_2 : Nat → Int
  F5_3 : Nat → Int
  F5_4 : Nat → Int
  F5_5 : Nat → Int
  F5_6 : Nat → Int
  F5_7 : Nat → Int
  F5_8 : Nat → Int
noncomputable instance : Inhabited S36r_0 := ⟨⟨0, dR, 0, 0, 0, 0, fun _ => 0, fun _ => 0, fun _ => 0, fun _ => 0, fun _ => 0, fun _ => 0, fun _ => 0, fun _ => 0, fun _ => 0⟩⟩
set_option maxRecDepth 100000
structure S36_0 where
  x26 : Int
  R2 : th.R
  n6_1 : Nat
  xh4_1 : Int
  xh4_2 : Int
  N5 : Nat
  F5_0 : Nat → Int
  F5_1 : Nat → Int
  F5_2 : Nat → Int
  F5_3 : Nat → Int
  F5_4 : Nat → Int
  F5_5 : Nat → Int
  F5_6 : Nat → Int
  F5_7 : Nat → Int
  F5_8 : Nat → Int
noncomputable instance : Inhabited S36_0 := ⟨⟨0, dR, 0, 0, 0, 0, fun _ => 0, fun _ => 0, fun _ => 0, fun _ => 0, fun _ => 0, fun _ => 0, fun _ => 0, fun _ => 0, fun _ => 0⟩⟩
set_option maxRecDepth 100000
structure S112_0 where
  xh0_2 : Int
  xh0_3 : Int
  xh3_0 : Int
  xh3_1 : Int
  xh3_2 : Int
  xh3_3 : Int
noncomputable instance : Inhabited S112_0 := ⟨⟨0, 0, 0, 0, 0, 0⟩⟩
set_option maxRecDepth 100000
def cpN (z:Int) (l : List Nd) (a:Int) : Sl := cnd (cnd (mayT z a != 0) true (decide (fnd l a < 0))) sl0 (slN (gN l (fnd l a).toNat))
theorem hdT_nf {z a : Int} {l : List Nd} (hf : fnd l a < 0) : hdT z l a ≠ 0 := by
  unfold hdT
  rw [decide_eq_true hf]
  by_cases hm : mayT z a = 0
  · rw [hm]; decide
  · rw [beq_eq_false_iff_ne.2 hm]
    exact hm
theorem RepS.bare {t : TS} {l : List Nd} {σ : Int → Sl} (h : RepS t l σ) {a : Int} (hua : U64 a) : brB t.M a = (((bwL l a).length:Int) == 0) := by
  unfold brB
  rw [h.hdE hua]
  by_cases hz : hdT t.M.size l a = 0
  · obtain ⟨l1, l2, g, rfl, ht, hf, ha, hld, hs, hok⟩ := h.at_ hua hz
    have hb : bwL (l1 ++ g :: l2) a = tA (l2.takeWhile (fun x => decide (x.d > g.d))) := by
      unfold bwL
      rw [hf, ha, if_neg (by omega)]
      unfold bwT
      have : (l1 ++ g :: l2).drop ((l1.length:Int).toNat + 1) = l2 := by simp
      rw [this]
      rfl
    rw [hld, hb, hz]
    have hd : (sN g (hdA l2 0) (lsA l1 0)).d = g.d := rfl
    have hx : (sN g (hdA l2 0) (lsA l1 0)).x = hdA l2 0 := rfl
    rw [hd, hx]
    cases l2 with
    | nil => rfl
    | cons y r =>
      have hy : y ∈ l1 ++ g :: y :: r := by simp
      obtain ⟨_, _, t3, _, _⟩ := h.tells hy
      have hne : y.t ≠ 0 := fun e => h.z0 (mem_tA.2 ⟨y, hy, e⟩)
      have e1 : hdA (y :: r) 0 = y.t := rfl
      rw [e1, t3, beq_eq_false_iff_ne.2 hne]
      by_cases hgt : y.d > g.d
      · rw [List.takeWhile_cons, decide_eq_true hgt, decide_eq_false (by omega)]
        simp [tA, cnd]
        omega
      · rw [List.takeWhile_cons, decide_eq_false hgt, decide_eq_true (by omega)]
        rfl
  · have hf : fnd l a < 0 := by
      rcases h.ld hua with ⟨_, _, _, _, ⟨i, hi, ht, hf, hm, _⟩ | ⟨_, hf, _⟩⟩ | ⟨_, _, _, _, hf, _⟩
      · have := hdT_mem h hm
        rw [ht] at this
        exact absurd this hz
      · omega
      · omega
    have hb : bwL l a = [] := by unfold bwL; rw [if_pos hf]
    rw [hb, bne_iff_ne.2 hz]
    rfl
theorem RepS.bareN {t : TS} {l : List Nd} {σ : Int → Sl} (h : RepS t l σ) {a : Int} (hua : U64 a) (hf : fnd l a < 0) : dpE t.M a = -1 ∧ brB t.M a = true := by
  have hz := hdT_nf (z := t.M.size) hf
  constructor
  · unfold dpE
    rw [h.hdE hua, bne_iff_ne.2 hz]
    rfl
  · unfold brB
    rw [h.hdE hua, bne_iff_ne.2 hz]
    rfl
theorem RepS.cap2 {t : TS} {l : List Nd} {σ : Int → Sl} (h : RepS t l σ) {a : Int} (hu : U64 a) : cp7 (Go.Sx.M.ld t.M a) = cpN t.M.size l a ∧ Go.Sx.M.ldE t.M a = mayT t.M.size a := by
  unfold cpN
  rcases h.ld hu with ⟨_, m0, e0, el, ⟨i, _, ht, hf, hm, _⟩ | ⟨_, hf, hz⟩⟩ | ⟨_, m0, e0, el, hf, _⟩
  · obtain ⟨p, q, hs⟩ := DL_mem h.dl hm
    rw [ht] at hs
    rw [el, hs, m0, hf, decide_eq_false (by omega)]
    exact ⟨rfl, e0⟩
  · rw [el, hz, m0, hf]
    exact ⟨rfl, e0⟩
  · rw [el, hf, bne_iff_ne.2 m0]
    exact ⟨rfl, e0⟩
set_option maxRecDepth 100000
def Lq (s : S12_0) : List Nd := nds (ndf s.F4_0 s.F4_1 s.F4_2 s.F4_3 s.F4_4 s.F4_5 s.F4_6 s.F4_7 s.F4_8) s.n7_1
def Q12 (p : P12_0) (s : S12_0) : Prop := e12_0_0 p s = true ∧ s.N4 = s.n7_1 ∧ s.n7_1 ≤ 60 ∧ (∃ σ, RepS ⟨s.R2, s.xh1_1, s.xh1_2⟩ (Lq s) σ) ∧ s.R2.size = 65536 ∧ TR ⟨s.R2, s.xh1_1, s.xh1_2⟩
theorem l12_0 {p : P12_0} {s : S12_0} (hp : p.x31 = p.n30 ∧ p.N0 = p.n30 ∧ p.n30 ≤ 60 ∧ p.xh3_0 = 65536)
    (ho : ∀ j, j < p.n30 → (Op.mk (p.F0_0 j) (p.F0_1 j) (p.F0_2 j) (Sl.mk (p.F0_3 j) (p.F0_4 j) (p.F0_5 j) (p.F0_6 j) (p.F0_7 j) (p.F0_8 j) (p.F0_9 j) 0 0 0)).R)
    (hs : s.x32 = 0 ∧ s.N4 = s.n7_1 ∧ s.n7_1 = 0) (hr : ∃ σ, RepS ⟨s.R2, s.xh1_1, s.xh1_2⟩ (Lq s) σ) (hz : s.R2.size = 65536) (ht : TR ⟨s.R2, s.xh1_1, s.xh1_2⟩) :
    LT (r12_0 p) s ∧ Q12 p (lastS (r12_0 p) s) := by
  obtain ⟨h31, hN, h60, hz3⟩ := hp
  refine LT.post (fun s : S12_0 => ∃ k : Nat, s.x32 = k ∧ k ≤ p.n30 ∧ s.N4 = s.n7_1 ∧ s.n7_1 ≤ k ∧ (∃ σ, RepS ⟨s.R2, s.xh1_1, s.xh1_2⟩ (Lq s) σ) ∧ s.R2.size = 65536 ∧ TR ⟨s.R2, s.xh1_1, s.xh1_2⟩) (Q12 p) (fun s : S12_0 => (p.n30 - s.x32).toNat) ?_ ⟨0, hs.1, Nat.zero_le _, hs.2.1, by omega, hr, hz, ht⟩
  rintro s ⟨k, g1, g2, g3, g4, ⟨σ, g5⟩, g6, g7⟩
  have w2 : IntKind.i64.wrap (s.x32 + 1) = ((k + 1:Nat):Int) := by rw [g1, wi (by omega) (by omega)]; omega
  have e27 : e12_0_27 p s = k := by show 0 + s.x32.toNat = k; omega
  by_cases hc : k < p.n30
  · have hd : e12_0_0 p s = false := by
      show cnd (decide (s.x32 < p.x31)) false true = false
      rw [g1, h31, decide_eq_true (by omega)]; rfl
    have hop : (e12_0_38 p s).R := by
      have := ho k hc
      rw [← e27] at this
      exact this
    have hll : (Lq s).length ≤ 100000 := by unfold Lq; rw [nds_len]; omega
    obtain ⟨q1, ⟨τ, q2⟩, q3⟩ := g5.step hll hop
    have hzz : s.R2.size = p.xh3_0 := by rw [hz3, g6]
    have q1 : dnE ⟨s.R2, s.xh1_1, s.xh1_2⟩ (e12_0_38 p s) = mdR s.R2.size (Lq s) (e12_0_38 p s) := q1
    have q2 : RepS (dnT ⟨s.R2, s.xh1_1, s.xh1_2⟩ (e12_0_38 p s)) (mdL s.R2.size (Lq s) (e12_0_38 p s)) τ := q2
    rw [hzz] at q1 q2
    have e39 : e12_0_39 p s = false := by
      unfold e12_0_39
      rw [q1]
      exact bne_self_eq_false _
    have e10 : e12_0_10 p s = false := by unfold e12_0_10; rw [e39]; rfl
    have hlen : (mdL p.xh3_0 (Lq s) (e12_0_38 p s)).length ≤ k + 1 := by
      have := mdL_len p.xh3_0 (Lq s) (e12_0_38 p s)
      have h2 : (Lq s).length = s.n7_1 := nds_len _ _
      omega
    have tr2 := dnT_R g7 hop
    have hcc : s.xh1_2 ≤ 100000 := by
      have h1 : s.xh1_2 = (Lq s).length := g5.c
      omega
    have hl2 := ndf_gN (mdL p.xh3_0 (Lq s) (e12_0_38 p s))
    have q4 : RepS (dnT ⟨s.R2, s.xh1_1, s.xh1_2⟩ (e12_0_38 p s)) (nds (ndf (fun j => (gN (mdL p.xh3_0 (Lq s) (e12_0_38 p s)) j).t) (fun j => (gN (mdL p.xh3_0 (Lq s) (e12_0_38 p s)) j).k) (fun j => (gN (mdL p.xh3_0 (Lq s) (e12_0_38 p s)) j).a) (fun j => (gN (mdL p.xh3_0 (Lq s) (e12_0_38 p s)) j).b) (fun j => (gN (mdL p.xh3_0 (Lq s) (e12_0_38 p s)) j).r) (fun j => (gN (mdL p.xh3_0 (Lq s) (e12_0_38 p s)) j).g) (fun j => (gN (mdL p.xh3_0 (Lq s) (e12_0_38 p s)) j).s) (fun j => (gN (mdL p.xh3_0 (Lq s) (e12_0_38 p s)) j).m) (fun j => (gN (mdL p.xh3_0 (Lq s) (e12_0_38 p s)) j).d)) (mdL p.xh3_0 (Lq s) (e12_0_38 p s)).length) τ := by
      rw [hl2]; exact q2
    simp only [r12_0, hd, e10, Tr.ok, Tr.get]
    refine ⟨⟨(fun e => by cases e), fun _ => ⟨⟨by omega, by omega⟩, by show e12_0_27 p s < p.N0; rw [e27, hN]; exact hc, ⟨g3, by show s.n7_1 ≤ 100000; omega⟩, ⟨g7, hcc, hop⟩, fun _ => ⟨fun i => rfl, fun i _ => rfl, ⟨⟨rfl, by show (mdL p.xh3_0 (Lq s) (e12_0_38 p s)).length ≤ 100000; omega⟩, tr2, τ, q4⟩, fun i => rfl⟩, (fun e => by cases e), fun _ => trivial⟩⟩, .inr ⟨_, rfl, ⟨k + 1, w2, hc, rfl, hlen, ⟨τ, q4⟩, q3.trans g6, tr2⟩, ?_⟩⟩
    show ((p.n30:Int) - e12_0_26 p s).toNat < ((p.n30:Int) - s.x32).toNat
    simp only [e12_0_26, w2]
    omega
  · have hd : e12_0_0 p s = true := by
      show cnd (decide (s.x32 < p.x31)) false true = true
      rw [g1, h31, decide_eq_false (by omega)]; rfl
    refine ⟨?_, .inl ⟨?_, hd, g3, by omega, ⟨σ, g5⟩, g6, g7⟩⟩
    · simp only [r12_0, hd, Tr.ok]
      exact ⟨fun _ => trivial, (fun e => by cases e)⟩
    · simp only [r12_0, hd, Tr.get]
      exact ⟨_, _, _, rfl⟩
def Lp1 (p : P12_1) : List Nd := nds (ndf p.F4_0 p.F4_1 p.F4_2 p.F4_3 p.F4_4 p.F4_5 p.F4_6 p.F4_7 p.F4_8) p.nh3_1
theorem l12_1 {p : P12_1} {s : S12_1} (hp : p.x56 = p.n55 ∧ p.n55 = p.nh3_1 ∧ p.N4 = p.nh3_1 ∧ p.nh3_1 ≤ 60) {σ : Int → Sl} (hr : RepS ⟨p.R2, p.xh1_1, p.xh1_2⟩ (Lp1 p) σ) (ht : TR ⟨p.R2, p.xh1_1, p.xh1_2⟩) (hs : s.x57 = 0) :
    LT (r12_1 p) s ∧ e12_1_0 p (lastS (r12_1 p) s) = true := by
  obtain ⟨h56, h55, hN, h60⟩ := hp
  refine LT.post (fun s : S12_1 => ∃ k : Nat, s.x57 = k ∧ k ≤ p.nh3_1) (fun s : S12_1 => e12_1_0 p s = true) (fun s : S12_1 => (p.nh3_1 - s.x57).toNat) ?_ ⟨0, hs, Nat.zero_le _⟩
  rintro s ⟨k, g1, g2⟩
  have w2 : IntKind.i64.wrap (s.x57 + 1) = ((k + 1:Nat):Int) := by rw [g1, wi (by omega) (by omega)]; omega
  have e17 : e12_1_17 p s = k := by show 0 + s.x57.toNat = k; omega
  have hL : (Lp1 p).length = p.nh3_1 := nds_len _ _
  by_cases hc : k < p.nh3_1
  · have hd : e12_1_0 p s = false := by
      show cnd (decide (s.x57 < p.x56)) false true = false
      rw [g1, h56, decide_eq_true (by omega)]; rfl
    have hm : ndf p.F4_0 p.F4_1 p.F4_2 p.F4_3 p.F4_4 p.F4_5 p.F4_6 p.F4_7 p.F4_8 k ∈ Lp1 p := by
      unfold Lp1 nds
      exact List.mem_map.2 ⟨k, List.mem_range.2 hc, rfl⟩
    obtain ⟨_, _, _, t4, _⟩ := hr.tells hm
    have hu : U64 (e12_1_18 p s) := by
      unfold e12_1_18; rw [e17]; exact t4
    have hb : blw p.R2 p.xh1_2 (e12_1_18 p s) = bwL (Lp1 p) (e12_1_18 p s) := hr.below (by omega) hu
    have hbl := bwL_len (Lp1 p) (e12_1_18 p s)
    have hbr : brB p.R2 (e12_1_18 p s) = (((bwL (Lp1 p) (e12_1_18 p s)).length:Int) == 0) := hr.bare hu
    have e21 : e12_1_21 p s = false := by
      show (!decide (ls (fun j => (blw p.R2 p.xh1_2 (e12_1_18 p s)).getD j 0) (blw p.R2 p.xh1_2 (e12_1_18 p s)).length = ls (fun j => (bwL (Lp1 p) (e12_1_18 p s)).getD j 0) (bwL (Lp1 p) (e12_1_18 p s)).length)) = false
      rw [hb]
      simp
    have e14 : e12_1_14 p s = false := by
      show cnd (e12_1_21 p s) true (!(brB p.R2 (e12_1_18 p s) == (((bwL (Lp1 p) (e12_1_18 p s)).length:Int) == 0))) = false
      rw [e21, hbr]
      simp [cnd]
    have hcc : p.xh1_2 ≤ 100000 := by
      have h1 : p.xh1_2 = (Lp1 p).length := hr.c
      omega
    simp only [r12_1, hd, e14, Tr.ok, Tr.get]
    refine ⟨⟨(fun e => by cases e), fun _ => ⟨⟨by omega, by omega⟩, by show e12_1_17 p s < p.N4; rw [e17, hN]; exact hc, ⟨hN, by show p.nh3_1 ≤ 100000; omega⟩, ⟨hu, ht, hcc⟩, ⟨Nat.le_refl _, Nat.le_refl _, by show (blw p.R2 p.xh1_2 (e12_1_18 p s)).length ≤ 1000000; rw [hb]; omega⟩, fun _ => ⟨hu, ht⟩, (fun e => by cases e), fun _ => trivial⟩⟩, .inr ⟨_, rfl, ⟨k + 1, w2, hc⟩, ?_⟩⟩
    show ((p.nh3_1:Int) - e12_1_16 p s).toNat < ((p.nh3_1:Int) - s.x57).toNat
    simp only [e12_1_16, w2]
    omega
  · have hd : e12_1_0 p s = true := by
      show cnd (decide (s.x57 < p.x56)) false true = true
      rw [g1, h56, decide_eq_false (by omega)]; rfl
    refine ⟨?_, .inl ⟨?_, hd⟩⟩
    · simp only [r12_1, hd, Tr.ok]
      exact ⟨fun _ => trivial, (fun e => by cases e)⟩
    · simp only [r12_1, hd, Tr.get]
      exact ⟨_, _, _, rfl⟩
end Go.Sx.M

