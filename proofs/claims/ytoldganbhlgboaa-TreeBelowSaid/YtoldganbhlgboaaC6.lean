/- Contracts of the functions of this seat, each by the executor and the kernel; part 6. Their conditions stand in each. -/
import Derived.Test.YtoldganbhlgboaaC5
set_option linter.unusedVariables false
set_option linter.unusedSimpArgs false
set_option linter.unnecessarySimpa false
namespace Go.Sx.M
open Go Go.Sx Go.Proofs Go.RowKit
set_option maxRecDepth 100000
structure S36r_0 where
  x26 : Int
  R2 : th.R
  n6_1 : Nat
  xh4_1 : Int
  xh4_2 : Int
  N5 : Nat
  F5_0 : Nat → Int
  F5_1 : Nat → Int
  F5_2 : Nat → Int
  F5_3 : Nat → Int
  F5_4 : Nat → Int
  F5_5 : Nat → Int
  F5_6 : Nat → Int
  F5_7 : Nat → Int
  F5_8 : Nat → Int
noncomputable instance : Inhabited S36r_0 := ⟨⟨0, dR, 0, 0, 0, 0, fun _ => 0, fun _ => 0, fun _ => 0, fun _ => 0, fun _ => 0, fun _ => 0, fun _ => 0, fun _ => 0, fun _ => 0⟩⟩
set_option maxRecDepth 100000
structure S36_0 where
  x26 : Int
  R2 : th.R
  n6_1 : Nat
  xh4_1 : Int
  xh4_2 : Int
  N5 : Nat
  F5_0 : Nat → Int
  F5_1 : Nat → Int
  F5_2 : Nat → Int
  F5_3 : Nat → Int
  F5_4 : Nat → Int
  F5_5 : Nat → Int
  F5_6 : Nat → Int
  F5_7 : Nat → Int
  F5_8 : Nat → Int
noncomputable instance : Inhabited S36_0 := ⟨⟨0, dR, 0, 0, 0, 0, fun _ => 0, fun _ => 0, fun _ => 0, fun _ => 0, fun _ => 0, fun _ => 0, fun _ => 0, fun _ => 0, fun _ => 0⟩⟩
set_option maxRecDepth 100000
set_option maxRecDepth 100000
set_option maxRecDepth 100000
set_option maxRecDepth 100000
set_option maxRecDepth 100000
set_option maxRecDepth 100000
structure S112_0 where
  xh0_2 : Int
  xh0_3 : Int
  xh3_0 : Int
  xh3_1 : Int
  xh3_2 : Int
  xh3_3 : Int
noncomputable instance : Inhabited S112_0 := ⟨⟨0, 0, 0, 0, 0, 0⟩⟩
set_option maxRecDepth 100000
set_option maxRecDepth 100000
set_option maxRecDepth 100000
set_option maxRecDepth 100000
set_option maxRecDepth 100000
set_option maxRecDepth 100000
set_option maxRecDepth 100000
set_option maxRecDepth 100000
set_option maxRecDepth 100000
set_option maxRecDepth 100000
set_option maxRecDepth 100000
set_option maxRecDepth 100000
set_option maxRecDepth 100000
set_option maxRecDepth 100000
set_option maxRecDepth 100000
set_option maxRecDepth 100000
set_option maxRecDepth 100000
set_option maxRecDepth 100000
set_option maxRecDepth 100000
set_option maxRecDepth 100000
theorem hdT_nf {z a : Int} {l : List Nd} (hf : fnd l a < 0) : hdT z l a ≠ 0 := by
  unfold hdT
  rw [decide_eq_true hf]
  by_cases hm : mayT z a = 0
  · rw [hm]; decide
  · rw [beq_eq_false_iff_ne.2 hm]
    exact hm
theorem RepS.bare {t : TS} {l : List Nd} {σ : Int → Sl} (h : RepS t l σ) {a : Int} (hua : U64 a) : brB t.M a = (((bwL l a).length:Int) == 0) := by
  unfold brB
  rw [h.hdE hua]
  by_cases hz : hdT t.M.size l a = 0
  · obtain ⟨l1, l2, g, rfl, ht, hf, ha, hld, hs, hok⟩ := h.at_ hua hz
    have hb : bwL (l1 ++ g :: l2) a = tA (l2.takeWhile (fun x => decide (x.d > g.d))) := by
      unfold bwL
      rw [hf, ha, if_neg (by omega)]
      unfold bwT
      have : (l1 ++ g :: l2).drop ((l1.length:Int).toNat + 1) = l2 := by simp
      rw [this]
      rfl
    rw [hld, hb, hz]
    have hd : (sN g (hdA l2 0) (lsA l1 0)).d = g.d := rfl
    have hx : (sN g (hdA l2 0) (lsA l1 0)).x = hdA l2 0 := rfl
    rw [hd, hx]
    cases l2 with
    | nil => rfl
    | cons y r =>
      have hy : y ∈ l1 ++ g :: y :: r := by simp
      obtain ⟨_, _, t3, _, _⟩ := h.tells hy
      have hne : y.t ≠ 0 := fun e => h.z0 (mem_tA.2 ⟨y, hy, e⟩)
      have e1 : hdA (y :: r) 0 = y.t := rfl
      rw [e1, t3, beq_eq_false_iff_ne.2 hne]
      by_cases hgt : y.d > g.d
      · rw [List.takeWhile_cons, decide_eq_true hgt, decide_eq_false (by omega)]
        simp [tA, cnd]
        omega
      · rw [List.takeWhile_cons, decide_eq_false hgt, decide_eq_true (by omega)]
        rfl
  · have hf : fnd l a < 0 := by
      rcases h.ld hua with ⟨_, _, _, _, ⟨i, hi, ht, hf, hm, _⟩ | ⟨_, hf, _⟩⟩ | ⟨_, _, _, _, hf, _⟩
      · have := hdT_mem h hm
        rw [ht] at this
        exact absurd this hz
      · omega
      · omega
    have hb : bwL l a = [] := by unfold bwL; rw [if_pos hf]
    rw [hb, bne_iff_ne.2 hz]
    rfl
theorem RepS.bareN {t : TS} {l : List Nd} {σ : Int → Sl} (h : RepS t l σ) {a : Int} (hua : U64 a) (hf : fnd l a < 0) : dpE t.M a = -1 ∧ brB t.M a = true := by
  have hz := hdT_nf (z := t.M.size) hf
  constructor
  · unfold dpE
    rw [h.hdE hua, bne_iff_ne.2 hz]
    rfl
  · unfold brB
    rw [h.hdE hua, bne_iff_ne.2 hz]
    rfl
def StD : Int → List Int → Prop
  | _, [] => True
  | b, x :: l => x ≤ b ∧ StD (x + 1) l
def lsD : Int → List Int → Int
  | b, [] => b
  | _, x :: l => lsD (x + 1) l
theorem StD.mono {b c : Int} (hbc : b ≤ c) : ∀ {l : List Int}, StD b l → StD c l
  | [], _ => trivial
  | _ :: _, h => ⟨Int.le_trans h.1 hbc, h.2⟩
theorem StD_app : ∀ {l1 l2 : List Int} {b : Int}, StD b (l1 ++ l2) ↔ StD b l1 ∧ StD (lsD b l1) l2
  | [], l2, b => ⟨fun h => ⟨trivial, h⟩, fun h => h.2⟩
  | x :: l1, l2, b => by
    show (x ≤ b ∧ StD (x + 1) (l1 ++ l2)) ↔ (x ≤ b ∧ StD (x + 1) l1) ∧ StD (lsD (x + 1) l1) l2
    rw [StD_app]
    exact ⟨fun h => ⟨⟨h.1, h.2.1⟩, h.2.2⟩, fun h => ⟨h.1.1, h.1.2, h.2⟩⟩
theorem StD_shift {l3 : List Int} {c : Int} (h3 : ∀ y r, l3 = y :: r → y ≤ c) : ∀ {lb : List Int} {b : Int}, c ≤ b → StD (b + 1) (lb ++ l3) → (∀ y, y ∈ lb → y > c) → StD b (lb.map (fun x => x - 1) ++ l3)
  | [], b, hb, h, _ => by
    cases l3 with
    | nil => trivial
    | cons y r => exact ⟨Int.le_trans (h3 y r rfl) hb, h.2⟩
  | x :: lb, b, hb, h, hd => by
    obtain ⟨h1, h2⟩ := h
    refine ⟨by show x - 1 ≤ b; omega, ?_⟩
    have := StD_shift h3 (lb := lb) (b := x) (by have := hd x List.mem_cons_self; omega) h2 fun y hy => hd y (List.mem_cons_of_mem _ hy)
    show StD (x - 1 + 1) (lb.map (fun x => x - 1) ++ l3)
    rw [show x - 1 + 1 = x by omega]
    exact this
def dps (l : List Nd) : List Int := l.map Nd.d
def Stp (l : List Nd) : Prop := StD 0 (dps l)
theorem dps_set {l : List Nd} {i : Nat} {y : Nd} (hy : y.d = (gN l i).d) : dps (l.set i y) = dps l := by
  unfold dps
  apply List.ext_getElem?
  intro j
  rw [List.getElem?_map, List.getElem?_map, List.getElem?_set]
  by_cases e : i = j
  · subst e
    by_cases hi : i < l.length
    · simp [hi, hy, gN, List.getD]
    · simp [hi]
  · simp [e]
theorem dps_swp (l : List Nd) (i k:Nat) (a b:Int) : dps (swpN l i k a b) = dps l := by
  unfold swpN
  cases Nat.beq i k <;> simp only [cnd_t, cnd_f]
  · exact (dps_set (by rfl)).trans (dps_set (by rfl))
  · exact (dps_set (by rfl)).trans ((dps_set (by rfl)).trans (dps_set (by rfl)))
theorem Stp.rt {z : Int} {l : List Nd} {x : Nd} (hx : x.d = 0) (h : Stp l) : Stp (rtL z l x) := by
  unfold rtL
  cases (ftT z l x != 0) <;> simp only [cnd_t, cnd_f]
  · show StD 0 (x.d :: dps l)
    rw [hx]
    exact ⟨Int.le_refl _, StD.mono (by decide) h⟩
  · exact h
theorem Stp.se {z : Int} {l : List Nd} {x : Nd} (h : Stp l) : Stp (seL z l x) := by
  unfold seL
  cases (hdT z l x.t != 0) <;> simp only [cnd_t, cnd_f]
  · cases badC x <;> simp only [cnd_t, cnd_f]
    · unfold Stp; rw [dps_set (by rfl)]; exact h
    · exact h
  · exact h
theorem Stp.mv {z : Int} {l : List Nd} {a b : Int} (h : Stp l) : Stp (mvL z l a b) := by
  unfold mvL
  cases (hdT z l a != 0) <;> simp only [cnd_t, cnd_f]
  · cases (frT z l b != 0) <;> simp only [cnd_t, cnd_f]
    · unfold Stp; rw [dps_set (by rfl)]; exact h
    · exact h
  · exact h
theorem Stp.sw {z : Int} {l : List Nd} {a b : Int} (h : Stp l) : Stp (swL z l a b) := by
  unfold swL
  cases (hdT z l a != 0) <;> simp only [cnd_t, cnd_f]
  · cases (hdT z l b != 0) <;> simp only [cnd_t, cnd_f]
    · unfold Stp; rw [dps_swp]; exact h
    · exact h
  · exact h
theorem putN_mid (l1 l2 : List Nd) (g c : Nd) : putN (l1 ++ g :: l2) (l1.length + 1) c = l1 ++ g :: c :: l2 := by
  unfold putN
  have e1 : (l1 ++ g :: l2).take (l1.length + 1) = l1 ++ [g] := by
    rw [show l1 ++ g :: l2 = (l1 ++ [g]) ++ l2 by simp]
    exact List.take_left' (by simp)
  have e2 : (l1 ++ g :: l2).drop (l1.length + 1) = l2 := by
    rw [show l1 ++ g :: l2 = (l1 ++ [g]) ++ l2 by simp]
    exact List.drop_left' (by simp)
  rw [e1, e2]; simp
theorem dps_app (l1 l2 : List Nd) : dps (l1 ++ l2) = dps l1 ++ dps l2 := List.map_append
theorem Stp.mid {l1 l2 : List Nd} {g c : Nd} (hc : c.d = g.d + 1) (h : Stp (l1 ++ g :: l2)) : Stp (l1 ++ g :: c :: l2) := by
  unfold Stp at *
  rw [dps_app, StD_app] at *
  obtain ⟨h1, h2, h3⟩ := h
  refine ⟨h1, h2, ?_, ?_⟩
  · show c.d ≤ g.d + 1; omega
  · exact StD.mono (by show g.d + 1 ≤ c.d + 1; omega) h3
theorem Stp.ch {t : TS} {l : List Nd} {σ : Int → Sl} (hr : RepS t l σ) {p : Int} (hu : U64 p) {x : Nd} (h : Stp l) : Stp (chL t.M.size l p x) := by
  by_cases hz : hdT t.M.size l p = 0
  · obtain ⟨l1, l2, g, rfl, ht, hf, ha, hld, hs, hok⟩ := hr.at_ hu hz
    have okg := hr.ok g (by simp)
    unfold chL
    rw [hz]
    cases (ftT t.M.size (l1 ++ g :: l2) x != 0)
    · rw [ha]
      by_cases hd : g.d ≥ 4096
      · rw [decide_eq_true hd]; exact h
      · rw [decide_eq_false hd, hf]
        have h1 := okg.d0
        have hw : IntKind.i64.wrap (g.d + 1) = g.d + 1 := by rw [wi (by omega) (by omega)]
        have e : (l1.length:Int).toNat = l1.length := by simp
        rw [hw, e]
        show Stp (putN (l1 ++ g :: l2) (l1.length + 1) { x with d := g.d + 1 })
        rw [putN_mid]
        exact Stp.mid rfl h
    · exact h
  · unfold chL
    rw [bne_iff_ne.2 hz]
    exact h
theorem dw_head {α : Type} {p : α → Bool} : ∀ {l : List α} {y : α} {r : List α}, l.dropWhile p = y :: r → p y = false
  | [], _, _, h => by cases h
  | x :: l, y, r, h => by
    rw [List.dropWhile_cons] at h
    cases hp : p x with
    | true => rw [hp] at h; exact dw_head h
    | false => rw [hp] at h; cases h; exact hp
theorem rmL_form {t : TS} {l : List Nd} {σ : Int → Sl} (h : RepS t l σ) {a : Int} (hua : U64 a) (hz : hdT t.M.size l a = 0) :
    ∃ l1 g lb l3, l = l1 ++ g :: (lb ++ l3) ∧ g.t = a ∧ (∀ y, y ∈ lb → y.d > g.d) ∧ (∀ y r, l3 = y :: r → y.d ≤ g.d) ∧ bwL l a = tA lb ∧ rmL t.M.size l a = l1 ++ (lb.map dN ++ l3) ∧ lb ++ l3 = l.drop (l1.length + 1) := by
  obtain ⟨l1, l2, g, rfl, ht, hf, ha, hld, hs, hok⟩ := h.at_ hua hz
  have hbw : bwL (l1 ++ g :: l2) a = tA (l2.takeWhile (fun x => decide (x.d > g.d))) := by
    unfold bwL
    rw [hf, ha, if_neg (by omega)]
    unfold bwT
    have : (l1 ++ g :: l2).drop ((l1.length:Int).toNat + 1) = l2 := by simp
    rw [this]
    rfl
  have hdr : l2 = (l1 ++ g :: l2).drop (l1.length + 1) := by simp
  obtain ⟨lb, l3, hlb, hsp, hdeep, h3⟩ : ∃ lb l3, lb = l2.takeWhile (fun x => decide (x.d > g.d)) ∧ l2 = lb ++ l3 ∧ (∀ y, y ∈ lb → y.d > g.d) ∧ ∀ y r, l3 = y :: r → y.d ≤ g.d := by
    refine ⟨_, l2.dropWhile (fun x => decide (x.d > g.d)), rfl, List.takeWhile_append_dropWhile.symm, fun y hy => ?_, fun y r hy => ?_⟩
    · have := mem_tw hy
      simpa using this
    · have := dw_head hy
      simpa using this
  refine ⟨l1, g, lb, l3, by rw [← hsp], ht, hdeep, h3, by rw [hbw, ← hlb], ?_, by rw [← hsp]; exact hdr⟩
  unfold rmL
  rw [hz, hbw, ← hlb]
  have hlen : (l1.length:Int).toNat = l1.length := by simp
  show rmG (fnd (l1 ++ g :: l2) a).toNat (tA lb).length 0 (l1 ++ g :: l2) = l1 ++ (lb.map dN ++ l3)
  rw [hf, hlen, rmG_A l1 0 (by omega), hsp]
  congr 1
  rw [rmG_B lb (l1.length + 1) (by omega) (by simp [tA]; omega)]
  congr 1
  apply List.map_congr_left
  intro y hy
  have h1 := hdeep y hy
  have h2 := (h.ok y (by rw [hsp]; simp [hy])).d1
  have h0 := (h.ok g (by simp)).d0
  unfold dW dN
  rw [wi (by omega) (by omega)]
theorem Stp.rm {t : TS} {l : List Nd} {σ : Int → Sl} (hr : RepS t l σ) {a : Int} (hua : U64 a) (h : Stp l) : Stp (rmL t.M.size l a) := by
  by_cases hz : hdT t.M.size l a = 0
  · obtain ⟨l1, g, lb, l3, rfl, ht, hd, h3, hb, hm, _⟩ := rmL_form hr hua hz
    rw [hm]
    unfold Stp at *
    rw [dps_app, StD_app] at *
    obtain ⟨k1, k2, k3⟩ := h
    refine ⟨k1, StD.mono k2 ?_⟩
    have k3 : StD (g.d + 1) (dps (lb ++ l3)) := k3
    rw [dps_app] at *
    have e : dps (lb.map dN) = (dps lb).map (fun x => x - 1) := by
      unfold dps
      rw [List.map_map, List.map_map]
      rfl
    rw [e]
    refine StD_shift (c := g.d) (fun y r hy => ?_) (Int.le_refl _) k3 fun y hy => ?_
    · cases l3 with
      | nil => cases hy
      | cons z q => cases hy; exact h3 z q rfl
    · obtain ⟨z, hz1, rfl⟩ := List.mem_map.1 hy
      exact hd z hz1
  · unfold rmL
    rw [bne_iff_ne.2 hz]
    exact h
theorem Stp.step {t : TS} {l : List Nd} {σ : Int → Sl} (hr : RepS t l σ) {o : Op} (ho : o.R) (h : Stp l) : Stp (mdL t.M.size l o) := by
  unfold mdL
  split
  · exact Stp.rt rfl h
  · split
    · exact Stp.ch hr ho.1 h
    · split
      · exact Stp.se h
      · split
        · exact Stp.mv h
        · split
          · exact Stp.sw h
          · split
            · exact Stp.rm hr ho.1 h
            · exact h
theorem RepS.blw_at {t : TS} {l1 l2 : List Nd} {g : Nd} {σ : Int → Sl} (h : RepS t (l1 ++ g :: l2) σ) : blw t.M t.c g.t = tA (l2.takeWhile (fun x => decide (x.d > g.d))) := by
  obtain ⟨e1, e2, e3⟩ := h.mem
  unfold blw
  rw [e1, if_neg (by simp), e2]
  have hd : (sN g (hdA l2 0) (lsA l1 0)).d = g.d := rfl
  have hx : (sN g (hdA l2 0) (lsA l1 0)).x = hdA l2 0 := rfl
  rw [hd, hx]
  have h' : RepS t ((l1 ++ [g]) ++ l2) σ := by simpa using h
  have hlen : l2.length ≤ (t.c + 1).toNat := by
    have := h.len_le
    simp only [List.length_append, List.length_cons] at this
    omega
  rw [RepS.bl h' hlen]
  rfl
theorem fnd_neg {l : List Nd} (hd : (tA l).Nodup) {a : Int} (h : a ∉ tA l) : fnd l a < 0 := by
  rcases fnd_spec hd a with ⟨i, _, ht, _, hm, _⟩ | ⟨_, h2⟩
  · exact absurd (mem_tA.2 ⟨_, hm, ht⟩) h
  · omega
theorem fnd_pos {l : List Nd} (hd : (tA l).Nodup) {a : Int} (h : a ∈ tA l) : 0 ≤ fnd l a := by
  rcases fnd_spec hd a with ⟨i, _, ht, hf, hm, _⟩ | ⟨h1, _⟩
  · omega
  · exact absurd h h1
theorem child_form {t : TS} {l : List Nd} {σ : Int → Sl} (hr : RepS t l σ) (hs : Stp l) (hl : l.length ≤ 100000) {x : Int} {n : Nd} (hx : U64 x) (hn : U64 n.t) (hR : SlR (slN n)) :
    (chE t x n.t (slN n) ≠ 0 → (chT t x n.t (slN n)).c = t.c) ∧ (chE t x n.t (slN n) = 0 → ∃ l1 g c l2 τ, l = l1 ++ g :: l2 ∧ g.t = x ∧ c.t = n.t ∧ c.d = g.d + 1 ∧ RepS (chT t x n.t (slN n)) (l1 ++ g :: c :: l2) τ ∧ Stp (l1 ++ g :: c :: l2)) := by
  obtain ⟨e1, ⟨τ, R⟩, _⟩ := hr.child hx hn hR hl
  rw [e1]
  have hst := Stp.ch hr hx (x := n) hs
  by_cases hz : hdT t.M.size l x = 0
  · obtain ⟨l1, l2, g, rfl, ht, hf, ha, hld, _, _⟩ := hr.at_ hx hz
    have okg := hr.ok g (by simp)
    have hb1 : (hdT t.M.size (l1 ++ g :: l2) x != 0) = false := by simp [hz]
    unfold chR
    unfold chL at R hst
    rw [hb1] at R hst ⊢
    by_cases hq : ftT t.M.size (l1 ++ g :: l2) n = 0
    · have hb2 : (ftT t.M.size (l1 ++ g :: l2) n != 0) = false := by simp [hq]
      rw [hb2, ha] at R hst
      rw [hb2, ha]
      by_cases hd : g.d ≥ 4096
      · rw [decide_eq_true hd] at R hst ⊢
        simp only [cnd_t, cnd_f] at R hst ⊢
        exact ⟨fun _ => by rw [R.c, hr.c], fun e => by cases e⟩
      · rw [decide_eq_false hd, hf] at R hst
        rw [decide_eq_false hd]
        have h1 := okg.d0
        have hw : IntKind.i64.wrap (g.d + 1) = g.d + 1 := by rw [wi (by omega) (by omega)]
        have e : (l1.length:Int).toNat = l1.length := by simp
        simp only [cnd_f, hw, e, putN_mid] at R hst ⊢
        exact ⟨fun h => absurd rfl h, fun _ => ⟨l1, g, { n with d := g.d + 1 }, l2, τ, rfl, ht, rfl, rfl, R, hst⟩⟩
    · have hb2 : (ftT t.M.size (l1 ++ g :: l2) n != 0) = true := bne_iff_ne.2 hq
      rw [hb2] at R hst ⊢
      simp only [cnd_t, cnd_f] at R hst ⊢
      exact ⟨fun _ => by rw [R.c, hr.c], fun e => absurd e hq⟩
  · have hb1 : (hdT t.M.size l x != 0) = true := bne_iff_ne.2 hz
    unfold chR
    unfold chL at R
    rw [hb1] at R ⊢
    simp only [cnd_t] at R ⊢
    exact ⟨fun _ => by rw [R.c, hr.c], fun e => absurd e hz⟩
theorem child_tells {t : TS} {l1 l2 : List Nd} {g c : Nd} {σ : Int → Sl} (h : RepS t (l1 ++ g :: c :: l2) σ) (hs : Stp (l1 ++ g :: c :: l2)) (hc : c.d = g.d + 1) (hl : (l1 ++ g :: c :: l2).length ≤ 100000) :
    (∃ r, blw t.M t.c g.t = c.t :: r) ∧ dpE t.M c.t = c.d ∧ dpE t.M g.t = g.d ∧ (0 ≤ g.d ∧ g.d ≤ 4096) := by
  have e := h.blw_at
  refine ⟨⟨_, by rw [e, List.takeWhile_cons, decide_eq_true (by omega)]; rfl⟩, (h.tells (by simp)).2.2.1, (h.tells (by simp)).2.2.1, ?_⟩
  have := h.ok g (by simp)
  exact ⟨this.d0, this.d1⟩
theorem child_bare {t : TS} {l1 l2 : List Nd} {g c : Nd} {σ : Int → Sl} (h : RepS t (l1 ++ g :: c :: l2) σ) (hs : Stp (l1 ++ g :: l2)) (hc : c.d = g.d + 1) (hl : (l1 ++ g :: c :: l2).length ≤ 100000) : brB t.M c.t = true := by
  have h' : RepS t ((l1 ++ [g]) ++ c :: l2) σ := by simpa using h
  have hu : U64 c.t := (h.tells (y := c) (by simp)).2.2.2.1
  have e := h'.blw_at
  have hb := h.below hl hu
  rw [h.bare hu, ← hb, e]
  have : l2.takeWhile (fun x => decide (x.d > c.d)) = [] := by
    cases l2 with
    | nil => rfl
    | cons y r =>
      unfold Stp at hs
      rw [dps_app, StD_app] at hs
      obtain ⟨_, _, h3⟩ := hs
      have h3 : y.d ≤ g.d + 1 ∧ _ := h3
      rw [List.takeWhile_cons, decide_eq_false (by have := h3.1; omega)]
      rfl
  rw [this]
  rfl
theorem split_uniq : ∀ {l1 k1 l2 k2 : List Nd} {g g' : Nd}, l1 ++ g :: l2 = k1 ++ g' :: k2 → g.t = g'.t → (tA (l1 ++ g :: l2)).Nodup → l1 = k1 ∧ g = g' ∧ l2 = k2
  | [], [], l2, k2, g, g', h, _, _ => by cases h; exact ⟨rfl, rfl, rfl⟩
  | [], y :: k1, l2, k2, g, g', h, ht, hd => by
    simp only [List.nil_append, List.cons_append, List.cons.injEq] at h
    obtain ⟨rfl, rfl⟩ := h
    have hd : (g.t :: tA (k1 ++ g' :: k2)).Nodup := hd
    exact absurd (mem_tA.2 ⟨g', by simp, ht.symm⟩) (List.nodup_cons.1 hd).1
  | y :: l1, [], l2, k2, g, g', h, ht, hd => by
    simp only [List.nil_append, List.cons_append, List.cons.injEq] at h
    obtain ⟨rfl, rfl⟩ := h
    have hd : (y.t :: tA (l1 ++ g :: l2)).Nodup := hd
    exact absurd (mem_tA.2 ⟨g, by simp, ht⟩) (List.nodup_cons.1 hd).1
  | y :: l1, z :: k1, l2, k2, g, g', h, ht, hd => by
    simp only [List.cons_append, List.cons.injEq] at h
    obtain ⟨rfl, h⟩ := h
    have hd : (y.t :: tA (l1 ++ g :: l2)).Nodup := hd
    obtain ⟨rfl, rfl, rfl⟩ := split_uniq h ht (List.nodup_cons.1 hd).2
    exact ⟨rfl, rfl, rfl⟩
theorem move_form {t : TS} {l1 l2 : List Nd} {g : Nd} {σ : Int → Sl} (h : RepS t (l1 ++ g :: l2) σ) {w : Int} (hw : U64 w) :
    (mvE t g.t w ≠ 0 → ∃ τ, RepS (mvT t g.t w) (l1 ++ g :: l2) τ) ∧ (mvE t g.t w = 0 → ∃ τ, RepS (mvT t g.t w) (l1 ++ { g with t := w } :: l2) τ ∧ g.t ∉ tA (l1 ++ { g with t := w } :: l2)) := by
  have hu : U64 g.t := (h.tells (y := g) (by simp)).2.2.2.1
  obtain ⟨e1, ⟨τ, R⟩, _⟩ := h.move hu hw
  rw [e1]
  have hz : hdT t.M.size (l1 ++ g :: l2) g.t = 0 := hdT_mem h (by simp)
  obtain ⟨k1, k2, g', hk, ht, hf, ha, _, _, _⟩ := h.at_ hu hz
  obtain ⟨rfl, rfl, rfl⟩ := split_uniq hk ht.symm h.nd
  have hb1 : (hdT t.M.size (l1 ++ g :: l2) g.t != 0) = false := by simp [hz]
  unfold mvR
  unfold mvL at R
  rw [hb1] at R ⊢
  by_cases hq : frT t.M.size (l1 ++ g :: l2) w = 0
  · have hb2 : (frT t.M.size (l1 ++ g :: l2) w != 0) = false := by simp [hq]
    rw [hb2, ha] at R
    rw [hb2]
    simp only [cnd_f, set_mid hf] at R
    refine ⟨fun e => absurd rfl e, fun _ => ⟨τ, R, fun e => ?_⟩⟩
    have hne : g.t ≠ w := fun e => by
      have hp := fnd_pos h.nd (a := g.t) (mem_tA.2 ⟨g, by simp, rfl⟩)
      rw [e] at hp
      unfold frT at hq
      by_cases hm : mayT t.M.size w = 0
      · rw [hm] at hq
        cases hw0 : (w == 0)
        · rw [hw0, decide_eq_true hp] at hq; cases hq
        · rw [hw0] at hq; cases hq
      · rw [bne_iff_ne.2 hm] at hq; exact hm hq
    have hd := h.nd
    rw [tA_app] at hd e
    obtain ⟨d1, d2, d3⟩ := List.nodup_append.1 hd
    rcases List.mem_append.1 e with e | e
    · exact d3 _ e _ (by simp [tA]) rfl
    · rcases List.mem_cons.1 e with e | e
      · exact hne e
      · have d2 : (g.t :: tA l2).Nodup := d2
        exact (List.nodup_cons.1 d2).1 e
  · have hb2 : (frT t.M.size (l1 ++ g :: l2) w != 0) = true := bne_iff_ne.2 hq
    rw [hb2] at R ⊢
    simp only [cnd_t, cnd_f] at R ⊢
    exact ⟨fun _ => ⟨τ, R⟩, fun e => absurd e hq⟩
theorem rem_form {t : TS} {l1 l2 : List Nd} {g c : Nd} {σ : Int → Sl} (h : RepS t (l1 ++ g :: c :: l2) σ) (hc : c.d = g.d + 1) (hl : (l1 ++ g :: c :: l2).length ≤ 100000) :
    rmE t g.t = 0 ∧ (rmT t g.t).c = t.c - 1 ∧ dpE (rmT t g.t).M c.t = g.d := by
  have hu : U64 g.t := (h.tells (y := g) (by simp)).2.2.2.1
  have hz : hdT t.M.size (l1 ++ g :: c :: l2) g.t = 0 := hdT_mem h (by simp)
  obtain ⟨e1, ⟨τ, R⟩, _⟩ := h.rem hl hu
  obtain ⟨k1, g', lb, l3, hk, ht, hd, h3, hb, hm, _⟩ := rmL_form h hu hz
  obtain ⟨rfl, rfl, hk2⟩ := split_uniq hk ht.symm h.nd
  rw [hm] at R
  cases lb with
  | nil =>
    have : c.d ≤ g.d := h3 c l2 (by simpa using hk2.symm)
    omega
  | cons y lb =>
    obtain ⟨rfl, rfl⟩ : c = y ∧ l2 = lb ++ l3 := by simpa using hk2
    refine ⟨by rw [e1, hz], ?_, ?_⟩
    · rw [R.c, h.c]
      simp
      omega
    · have := (R.tells (y := dN c) (by simp)).2.2.1
      have e : (dN c).t = c.t := rfl
      rw [e] at this
      rw [this]
      show c.d - 1 = g.d
      omega
set_option maxRecDepth 100000
def Q11 (p : P11_0) (s : S11_0) : Prop := e11_0_0 p s = true ∧ (∃ l σ, RepS ⟨s.R2, s.xh1_1, s.xh1_2⟩ l σ ∧ l.length ≤ 60 ∧ Stp l) ∧ TR ⟨s.R2, s.xh1_1, s.xh1_2⟩
theorem l11_0 {p : P11_0} {s : S11_0} (hp : p.x30 = p.n29 ∧ p.N0 = p.n29 ∧ p.n29 ≤ 60)
    (ho : ∀ j, j < p.n29 → (Op.mk (p.F0_0 j) (p.F0_1 j) (p.F0_2 j) (Sl.mk (p.F0_3 j) (p.F0_4 j) (p.F0_5 j) (p.F0_6 j) (p.F0_7 j) (p.F0_8 j) (p.F0_9 j) 0 0 0)).R)
    (hs : s.x31 = 0) (hr : ∃ σ, RepS ⟨s.R2, s.xh1_1, s.xh1_2⟩ [] σ) (ht : TR ⟨s.R2, s.xh1_1, s.xh1_2⟩) :
    LT (r11_0 p) s ∧ Q11 p (lastS (r11_0 p) s) := by
  obtain ⟨h31, hN, h60⟩ := hp
  refine LT.post (fun s : S11_0 => ∃ k : Nat, s.x31 = k ∧ k ≤ p.n29 ∧ (∃ l σ, RepS ⟨s.R2, s.xh1_1, s.xh1_2⟩ l σ ∧ l.length ≤ k ∧ Stp l) ∧ TR ⟨s.R2, s.xh1_1, s.xh1_2⟩) (Q11 p) (fun s : S11_0 => (p.n29 - s.x31).toNat) ?_ ⟨0, hs, Nat.zero_le _, (let ⟨σ, h⟩ := hr; ⟨[], σ, h, Nat.le_refl _, trivial⟩), ht⟩
  rintro s ⟨k, g1, g2, ⟨l, σ, g5, g4, g6⟩, g7⟩
  have w2 : IntKind.i64.wrap (s.x31 + 1) = ((k + 1:Nat):Int) := by rw [g1, wi (by omega) (by omega)]; omega
  have e27 : e11_0_10 p s = k := by show 0 + s.x31.toNat = k; omega
  by_cases hc : k < p.n29
  · have hd : e11_0_0 p s = false := by
      show cnd (decide (s.x31 < p.x30)) false true = false
      rw [g1, h31, decide_eq_true (by omega)]; rfl
    have hop : (Op.mk (e11_0_11 p s) (e11_0_12 p s) (e11_0_13 p s) (Sl.mk (e11_0_14 p s) (e11_0_15 p s) (e11_0_16 p s) (e11_0_17 p s) (e11_0_18 p s) (e11_0_19 p s) (e11_0_20 p s) 0 0 0)).R := by
      have := ho k hc
      rw [← e27] at this
      exact this
    obtain ⟨_, ⟨τ, q2⟩, _⟩ := g5.step (by omega) hop
    have q5 := Stp.step g5 hop g6
    have q6 := mdL_len s.R2.size l (Op.mk (e11_0_11 p s) (e11_0_12 p s) (e11_0_13 p s) (Sl.mk (e11_0_14 p s) (e11_0_15 p s) (e11_0_16 p s) (e11_0_17 p s) (e11_0_18 p s) (e11_0_19 p s) (e11_0_20 p s) 0 0 0))
    have hcc : s.xh1_2 ≤ 100000 := by
      have h1 : s.xh1_2 = l.length := g5.c
      omega
    simp only [r11_0, hd, Tr.ok, Tr.get]
    refine ⟨⟨(fun e => by cases e), fun _ => ⟨⟨by omega, by omega⟩, by show e11_0_10 p s < p.N0; rw [e27, hN]; exact hc, ⟨g7, hcc, hop⟩, trivial⟩⟩, .inr ⟨_, rfl, ⟨k + 1, w2, hc, ⟨_, τ, q2, Nat.le_trans q6 (by omega), q5⟩, dnT_R g7 hop⟩, ?_⟩⟩
    show ((p.n29:Int) - e11_0_6 p s).toNat < ((p.n29:Int) - s.x31).toNat
    simp only [e11_0_6, w2]
    omega
  · have hd : e11_0_0 p s = true := by
      show cnd (decide (s.x31 < p.x30)) false true = true
      rw [g1, h31, decide_eq_false (by omega)]; rfl
    refine ⟨?_, .inl ⟨?_, hd, ⟨l, σ, g5, by omega, g6⟩, g7⟩⟩
    · simp only [r11_0, hd, Tr.ok]
      exact ⟨fun _ => trivial, (fun e => by cases e)⟩
    · simp only [r11_0, hd, Tr.get]
      exact ⟨_, _, _, rfl⟩
theorem law11_true (v : V11) (hQ : v.Q = v.L) (ho : ∀ j, j < v.L → (Op.mk (v.ok j) (v.oa j) (v.ob j) (Sl.mk (v.kc j) (v.ac j) (v.bc j) (v.rc j) (v.gc j) (v.sc j) (v.mc j) 0 0 0)).R) (hx : U64 v.x) (hy : U64 v.y) (hw : U64 v.w) : (f11 v).ok ∧ f11_22 v = true := by
  by_cases h15 : f11_23 v = true
  · have w : ∀ {P : Prop}, f11_23 v = false → P := fun h => by rw [h15] at h; cases h
    refine ⟨⟨trivial, fun _ h => w h, fun _ h => w h, fun _ h => w h, fun _ h => w h, fun _ h => w h, fun _ h => w h, fun _ h => w h, fun _ h => w h, fun _ h => w h, fun _ h => w h, fun _ h => w h, fun _ h => w h, fun _ h => w h, fun _ h => w h, fun _ h => w h, fun _ h => w h, trivial⟩, ?_⟩
    unfold f11_22; rw [h15]; rfl
  · have h60 : v.L ≤ 60 := by
      unfold f11_23 at h15
      simp only [decide_eq_true_eq] at h15
      omega
    have h15 : f11_23 v = false := by simpa using h15
    have m0 : LT (r11_0 (P11_0.mk v.x v.y v.w v.L v.L v.Q v.ob_ v.ok v.oa v.ob v.kc v.ac v.bc v.rc v.gc v.sc v.mc 65536)) _ ∧ Q11 (P11_0.mk v.x v.y v.w v.L v.L v.Q v.ob_ v.ok v.oa v.ob v.kc v.ac v.bc v.rc v.gc v.sc v.mc 65536) (f11_24 v) := l11_0 (s := ⟨0, 0, 0, op0.1.M⟩)
      ⟨rfl, hQ, h60⟩ ho rfl ⟨_, op0_rep⟩ op0_R
    obtain ⟨lt0, q0, ⟨l, σ, hr, hl, hst⟩, ht⟩ := m0
    have hr : RepS (f11_28 v) l σ := hr
    have ht : TR (f11_28 v) := ht
    have hR : SlR ⟨8, 128, 7, 0, 0, 0, 0, 0, 0, 0⟩ := by (repeat' first | apply SlR.mk | apply And.intro) <;> decide
    have h26 : f11_26 v = l.length := hr.c
    obtain ⟨b1, b2⟩ := child_form (n := ⟨v.y, 8, 128, 7, 0, 0, 0, 0, 0⟩) hr hst (by omega) hx hy hR
    have ht1 : TR (f11_30 v) := chT_R ht hx hy hR
    have p56 : pre56 (V56.mk v.x v.y 8 128 7 0 0 0 0 (f11_25 v) (f11_26 v) (f11_27 v)) := ⟨⟨hx, hy⟩, hR, ht⟩
    by_cases h29 : f11_29 v = true
    · have w : ∀ {P : Prop}, f11_29 v = false → P := fun h => by rw [h29] at h; cases h
      have he := b1 (bne_iff_ne.1 h29)
      have he : f11_32 v = f11_26 v := he
      refine ⟨⟨trivial, fun _ _ => trivial, fun _ _ _ => lt0, fun _ _ _ => p56, fun _ _ _ h => w h, fun _ _ _ h => w h, fun _ _ _ h => w h, fun _ _ _ h => w h, fun _ _ _ h => w h, fun _ _ _ h => w h, fun _ _ _ h => w h, fun _ _ _ h => w h, fun _ _ _ h => w h, fun _ _ _ h => w h, fun _ _ _ h => w h, fun _ _ _ h => w h, fun _ _ _ h => w h, trivial⟩, ?_⟩
      unfold f11_22
      rw [h15, h29, he]
      simp [cnd]
    · have h29 : f11_29 v = false := by simpa using h29
      obtain ⟨l1, g, c, l2, τ, rfl, hg, hc, hcd, R1, S1⟩ := b2 (bne_eq_false_iff_eq.1 h29)
      have hc : c.t = v.y := hc
      have R1 : RepS (f11_30 v) (l1 ++ g :: c :: l2) τ := R1
      simp only [List.length_append, List.length_cons] at hl h26
      have hl1 : (l1 ++ g :: c :: l2).length ≤ 100000 := by simp only [List.length_append, List.length_cons]; omega
      have h32 : f11_32 v = (l1 ++ g :: c :: l2).length := R1.c
      simp only [List.length_append, List.length_cons] at h32
      obtain ⟨⟨r, t1⟩, t2, t3, t4⟩ := child_tells R1 S1 hcd hl1
      have t5 := child_bare R1 hst hcd hl1
      have bA := R1.blw_at
      rw [hg] at t1 t3 bA
      rw [hc] at t1 t2 t5
      have t1 : blw (f11_33 v) (f11_32 v) v.x = v.y :: r := t1
      have t2 : dpE (f11_33 v) v.y = c.d := t2
      have t3 : dpE (f11_33 v) v.x = g.d := t3
      have t5 : brB (f11_33 v) v.y = true := t5
      have bA : blw (f11_33 v) (f11_32 v) v.x = tA ((c :: l2).takeWhile (fun x => decide (x.d > g.d))) := bA
      have e34 : f11_34 v = r.length + 1 := by unfold f11_34; rw [t1]; rfl
      have e36 : f11_36 v = false := by
        unfold f11_36 f11_35
        rw [e34]
        exact beq_eq_false_iff_ne.2 (by omega)
      have e37 : f11_37 v = false := by
        unfold f11_37
        rw [e36, t1]
        simp [cnd]
      have e38 : f11_38 v = false := by
        unfold f11_38
        rw [e37, t2, t3, hcd, h32, h26, wi (by omega) (by omega), wi (by omega) (by omega)]
        simp [cnd]
        omega
      have e39 : f11_39 v = false := by
        unfold f11_39
        rw [e38, t5]; rfl
      have ht2 : TR (f11_42 v) := mvT_R ht1 hw
      have hrl : r.length ≤ 100 := by
        have e := congrArg List.length (t1.symm.trans bA)
        have e2 : ((c :: l2).takeWhile (fun x => decide (x.d > g.d))).length ≤ (c :: l2).length := (List.takeWhile_prefix _).length_le
        simp only [tA, List.length_map, List.length_cons] at e e2
        omega
      obtain ⟨m1, m2⟩ := move_form R1 hw
      rw [hg] at m1 m2
      -- what the move comes to
      obtain ⟨g2, τ2, R2, hg2, hd2, e48, eb⟩ : ∃ (g2 : Nd) (τ2 : Int → Sl), RepS (f11_42 v) (l1 ++ g2 :: c :: l2) τ2 ∧ g2.t = f11_49 v ∧ g2.d = g.d ∧ f11_48 v = false ∧ (f11_41 v = true → f11_46 v = f11_34 v) := by
        by_cases hm : mvE (f11_30 v) v.x v.w = 0
        · obtain ⟨τ2, R2, hni⟩ := m2 hm
          have e41 : f11_41 v = true := beq_iff_eq.2 hm
          have R2' : RepS (f11_42 v) (l1 ++ { g with t := v.w } :: c :: l2) τ2 := R2
          have b2 : blw (f11_45 v) (f11_44 v) v.w = tA ((c :: l2).takeWhile (fun x => decide (x.d > g.d))) := R2'.blw_at
          have b3 : blw (f11_45 v) (f11_44 v) v.w = blw (f11_33 v) (f11_32 v) v.x := b2.trans bA.symm
          have e46 : f11_46 v = f11_34 v := by unfold f11_46 f11_34; rw [b3]
          have e47 : f11_47 v = false := by
            unfold f11_47
            rw [e46, b3]
            simp
          have hdx : dpE (f11_45 v) v.x = -1 := (R2'.bareN hx (fnd_neg R2'.nd hni)).1
          refine ⟨{ g with t := v.w }, τ2, R2', ?_, rfl, ?_, fun _ => e46⟩
          · unfold f11_49; rw [e41]; rfl
          · unfold f11_48
            rw [e41, e47, hdx]; rfl
        · obtain ⟨τ2, R2⟩ := m1 hm
          have e41 : f11_41 v = false := beq_eq_false_iff_ne.2 hm
          refine ⟨g, τ2, R2, ?_, rfl, ?_, fun e => by rw [e41] at e; cases e⟩
          · unfold f11_49; rw [e41]; exact hg
          · unfold f11_48
            rw [e41]; rfl
      have hl2 : (l1 ++ g2 :: c :: l2).length ≤ 100000 := by simp only [List.length_append, List.length_cons]; omega
      have h44 : f11_44 v = (l1 ++ g2 :: c :: l2).length := R2.c
      simp only [List.length_append, List.length_cons] at h44
      obtain ⟨r1, r2, r3⟩ := rem_form R2 (by omega) hl2
      have r4 := (R2.tells (y := g2) (by simp)).2.2.1
      have hu2 : U64 (f11_49 v) := by rw [← hg2]; exact (R2.tells (y := g2) (by simp)).2.2.2.1
      rw [hg2] at r1 r2 r3 r4
      rw [hc] at r3
      have r1 : rmE (f11_50 v) (f11_49 v) = 0 := r1
      have r2 : f11_52 v = f11_44 v - 1 := r2
      have r3 : dpE (f11_53 v) v.y = g2.d := r3
      have r4 : dpE (f11_45 v) (f11_49 v) = g2.d := r4
      have c32 : f11_32 v ≤ 100000 := by omega
      have c44 : f11_44 v ≤ 100000 := by omega
      refine ⟨⟨trivial, fun _ _ => trivial, fun _ _ _ => lt0, fun _ _ _ => p56, fun _ _ _ _ => ⟨hx, ht1, c32⟩, fun _ _ _ _ _ => ⟨Int.le_refl _, by unfold f11_35; omega⟩, fun _ _ _ _ _ => by omega, fun _ _ _ _ _ => hy, fun _ _ _ _ _ => hx, fun _ _ _ _ _ => ⟨hy, ht1⟩, fun _ _ _ _ _ => ⟨⟨hx, hw⟩, ht1⟩, fun _ _ _ _ _ _ => ⟨hw, ht2, c44⟩,
        fun _ _ _ _ _ h => ⟨Nat.le_refl _, Nat.le_refl _, by show f11_46 v ≤ 1000000; rw [eb h]; omega⟩, fun _ _ _ _ _ _ _ => hx, fun _ _ _ _ _ _ => hu2, fun _ _ _ _ _ _ => ⟨hu2, ht2, c44⟩, fun _ _ _ _ _ _ _ => hy, trivial⟩, ?_⟩
      unfold f11_22
      have h5 : f11_44 v - 1 = f11_26 v := by rw [h44, h26]; omega
      rw [h15, h29, e39, e48, r1, r3, r4, r2, h5]
      simp [cnd]
set_option maxRecDepth 100000
def pre11 (v : V11) : Prop := v.Q = v.L ∧ (∀ j, j < v.L → (Op.mk (v.ok j) (v.oa j) (v.ob j) (Sl.mk (v.kc j) (v.ac j) (v.bc j) (v.rc j) (v.gc j) (v.sc j) (v.mc j) 0 0 0)).R) ∧ U64 v.x ∧ U64 v.y ∧ U64 v.w
theorem n11 (v : V11) (h : pre11 v) : (f11 v).ok ∧ (f11 v).get.1 = .bool true ∧ HOws (f11 v).get.2.1 [HO.ro 85 10 v.Q (fun j => [.int .i64 (v.ok j), .int .u64 (v.oa j), .int .u64 (v.ob j), .int .i64 (v.kc j), .int .u64 (v.ac j), .int .i64 (v.bc j), .int .i64 (v.rc j), .int .i64 (v.gc j), .int .i64 (v.sc j), .int .u64 (v.mc j)]) v.ob_] := by
  obtain ⟨k1, k2⟩ := law11_true v h.1 h.2.1 h.2.2.1 h.2.2.2.1 h.2.2.2.2
  exact ⟨k1, congrArg SV.bool k2, .refl _⟩
noncomputable def f11n (v : V11) : Tr (Fin th.R) := .need (pre11 v) (.leaf (.bool true, [.ro 85 10 v.Q (fun j => [.int .i64 (v.ok j), .int .u64 (v.oa j), .int .u64 (v.ob j), .int .i64 (v.kc j), .int .u64 (v.ac j), .int .i64 (v.bc j), .int .i64 (v.rc j), .int .i64 (v.gc j), .int .i64 (v.sc j), .int .u64 (v.mc j)]) v.ob_], []))
theorem s11n : Sound Try.prog th 11 (fnC d11 ofV11 f11n) := fnC_refine s11 fun v h => by
  obtain ⟨hp, _⟩ := h
  obtain ⟨a, b, c⟩ := n11 v hp
  exact ⟨a, b.symm, (qdd11 v).symm, c, by show 1 ≤ 1; decide⟩
theorem claw11 (v : V11) : fnC d11 ofV11 f11n (A11 v) (H11 v) = some (.need (∀ i, i < v.Q → (fun j => [.int .i64 (v.ok j), .int .u64 (v.oa j), .int .u64 (v.ob j), .int .i64 (v.kc j), .int .u64 (v.ac j), .int .i64 (v.bc j), .int .i64 (v.rc j), .int .i64 (v.gc j), .int .i64 (v.sc j), .int .u64 (v.mc j)] : Nat → List SV) i = elC (fun j => [.int .i64 (v.ok j), .int .u64 (v.oa j), .int .u64 (v.ob j), .int .i64 (v.kc j), .int .u64 (v.ac j), .int .i64 (v.bc j), .int .i64 (v.rc j), .int .i64 (v.gc j), .int .i64 (v.sc j), .int .u64 (v.mc j)] : Nat → List SV) 0 [.int .i64, .int .u64, .int .u64, .int .i64, .int .u64, .int .i64, .int .i64, .int .i64, .int .i64, .int .u64] i) ((f11n v).map (fixF (H11 v)))) := by kernel_rfl
end Go.Sx.M

