/- Contracts of the functions of this seat, each by the executor and the kernel; part 6. Their conditions stand in each. -/
import Derived.Test.YtoldganbhlgboaaC5
set_option linter.unusedVariables false
set_option linter.unusedSimpArgs false
set_option linter.unnecessarySimpa false
namespace Go.Sx.M
open Go Go.Sx Go.Proofs Go.RowKit
set_option maxRecDepth 100000
set_option maxRecDepth 100000
structure S36r_0 where
  x26 : Int
  R2 : th.R
  n6_1 : Nat
  xh4_1 : Int
  xh4_2 : Int
  N5 : Nat
  F5_0 : Nat → Int
  F5_1 : Nat → Int
  F5_2 : Nat → Int
  F5_3 : Nat → Int
  F5_4 : Nat → Int
  F5_5 : Nat → Int
  F5_6 : Nat → Int
  F5_7 : Nat → Int
  F5_8 : Nat → Int
noncomputable instance : Inhabited S36r_0 := ⟨⟨0, dR, 0, 0, 0, 0, fun _ => 0, fun _ => 0, fun _ => 0, fun _ => 0, fun _ => 0, fun _ => 0, fun _ => 0, fun _ => 0, fun _ => 0⟩⟩
set_option maxRecDepth 100000
structure S36_0 where
  x26 : Int
  R2 : th.R
  n6_1 : Nat
  xh4_1 : Int
  xh4_2 : Int
  N5 : Nat
  F5_0 : Nat → Int
  F5_1 : Nat → Int
  F5_2 : Nat → Int
  F5_3 : Nat → Int
  F5_4 : Nat → Int
  F5_5 : Nat → Int
  F5_6 : Nat → Int
  F5_7 : Nat → Int
  F5_8 : Nat → Int
noncomputable instance : Inhabited S36_0 := ⟨⟨0, dR, 0, 0, 0, 0, fun _ => 0, fun _ => 0, fun _ => 0, fun _ => 0, fun _ => 0, fun _ => 0, fun _ => 0, fun _ => 0, fun _ => 0⟩⟩
set_option maxRecDepth 100000
set_option maxRecDepth 100000
set_option maxRecDepth 100000
set_option maxRecDepth 100000
set_option maxRecDepth 100000
set_option maxRecDepth 100000
structure S112_0 where
  xh0_2 : Int
  xh0_3 : Int
  xh3_0 : Int
  xh3_1 : Int
  xh3_2 : Int
  xh3_3 : Int
noncomputable instance : Inhabited S112_0 := ⟨⟨0, 0, 0, 0, 0, 0⟩⟩
set_option maxRecDepth 100000
set_option maxRecDepth 100000
set_option maxRecDepth 100000
set_option maxRecDepth 100000
set_option maxRecDepth 100000
set_option maxRecDepth 100000
set_option maxRecDepth 100000
set_option maxRecDepth 100000
set_option maxRecDepth 100000
set_option maxRecDepth 100000
set_option maxRecDepth 100000
set_option maxRecDepth 100000
set_option maxRecDepth 100000
set_option maxRecDepth 100000
set_option maxRecDepth 100000
set_option maxRecDepth 100000
set_option maxRecDepth 100000
set_option maxRecDepth 100000
set_option maxRecDepth 100000
set_option maxRecDepth 100000
def StD : Int → List Int → Prop
  | _, [] => True
  | b, x :: l => x ≤ b ∧ StD (x + 1) l
def lsD : Int → List Int → Int
  | b, [] => b
  | _, x :: l => lsD (x + 1) l
theorem StD.mono {b c : Int} (hbc : b ≤ c) : ∀ {l : List Int}, StD b l → StD c l
  | [], _ => trivial
  | _ :: _, h => ⟨Int.le_trans h.1 hbc, h.2⟩
theorem StD_app : ∀ {l1 l2 : List Int} {b : Int}, StD b (l1 ++ l2) ↔ StD b l1 ∧ StD (lsD b l1) l2
  | [], l2, b => ⟨fun h => ⟨trivial, h⟩, fun h => h.2⟩
  | x :: l1, l2, b => by
    show (x ≤ b ∧ StD (x + 1) (l1 ++ l2)) ↔ (x ≤ b ∧ StD (x + 1) l1) ∧ StD (lsD (x + 1) l1) l2
    rw [StD_app]
    exact ⟨fun h => ⟨⟨h.1, h.2.1⟩, h.2.2⟩, fun h => ⟨h.1.1, h.1.2, h.2⟩⟩
theorem StD_shift {l3 : List Int} {c : Int} (h3 : ∀ y r, l3 = y :: r → y ≤ c) : ∀ {lb : List Int} {b : Int}, c ≤ b → StD (b + 1) (lb ++ l3) → (∀ y, y ∈ lb → y > c) → StD b (lb.map (fun x => x - 1) ++ l3)
  | [], b, hb, h, _ => by
    cases l3 with
    | nil => trivial
    | cons y r => exact ⟨Int.le_trans (h3 y r rfl) hb, h.2⟩
  | x :: lb, b, hb, h, hd => by
    obtain ⟨h1, h2⟩ := h
    refine ⟨by show x - 1 ≤ b; omega, ?_⟩
    have := StD_shift h3 (lb := lb) (b := x) (by have := hd x List.mem_cons_self; omega) h2 fun y hy => hd y (List.mem_cons_of_mem _ hy)
    show StD (x - 1 + 1) (lb.map (fun x => x - 1) ++ l3)
    rw [show x - 1 + 1 = x by omega]
    exact this
def dps (l : List Nd) : List Int := l.map Nd.d
def Stp (l : List Nd) : Prop := StD 0 (dps l)
theorem dps_set {l : List Nd} {i : Nat} {y : Nd} (hy : y.d = (gN l i).d) : dps (l.set i y) = dps l := by
  unfold dps
  apply List.ext_getElem?
  intro j
  rw [List.getElem?_map, List.getElem?_map, List.getElem?_set]
  by_cases e : i = j
  · subst e
    by_cases hi : i < l.length
    · simp [hi, hy, gN, List.getD]
    · simp [hi]
  · simp [e]
theorem dps_swp (l : List Nd) (i k:Nat) (a b:Int) : dps (swpN l i k a b) = dps l := by
  unfold swpN
  cases Nat.beq i k <;> simp only [cnd_t, cnd_f]
  · exact (dps_set (by rfl)).trans (dps_set (by rfl))
  · exact (dps_set (by rfl)).trans ((dps_set (by rfl)).trans (dps_set (by rfl)))
theorem Stp.rt {z : Int} {l : List Nd} {x : Nd} (hx : x.d = 0) (h : Stp l) : Stp (rtL z l x) := by
  unfold rtL
  cases (ftT z l x != 0) <;> simp only [cnd_t, cnd_f]
  · show StD 0 (x.d :: dps l)
    rw [hx]
    exact ⟨Int.le_refl _, StD.mono (by decide) h⟩
  · exact h
theorem Stp.se {z : Int} {l : List Nd} {x : Nd} (h : Stp l) : Stp (seL z l x) := by
  unfold seL
  cases (hdT z l x.t != 0) <;> simp only [cnd_t, cnd_f]
  · cases badC x <;> simp only [cnd_t, cnd_f]
    · unfold Stp; rw [dps_set (by rfl)]; exact h
    · exact h
  · exact h
theorem Stp.mv {z : Int} {l : List Nd} {a b : Int} (h : Stp l) : Stp (mvL z l a b) := by
  unfold mvL
  cases (hdT z l a != 0) <;> simp only [cnd_t, cnd_f]
  · cases (frT z l b != 0) <;> simp only [cnd_t, cnd_f]
    · unfold Stp; rw [dps_set (by rfl)]; exact h
    · exact h
  · exact h
theorem Stp.sw {z : Int} {l : List Nd} {a b : Int} (h : Stp l) : Stp (swL z l a b) := by
  unfold swL
  cases (hdT z l a != 0) <;> simp only [cnd_t, cnd_f]
  · cases (hdT z l b != 0) <;> simp only [cnd_t, cnd_f]
    · unfold Stp; rw [dps_swp]; exact h
    · exact h
  · exact h
theorem putN_mid (l1 l2 : List Nd) (g c : Nd) : putN (l1 ++ g :: l2) (l1.length + 1) c = l1 ++ g :: c :: l2 := by
  unfold putN
  have e1 : (l1 ++ g :: l2).take (l1.length + 1) = l1 ++ [g] := by
    rw [show l1 ++ g :: l2 = (l1 ++ [g]) ++ l2 by simp]
    exact List.take_left' (by simp)
  have e2 : (l1 ++ g :: l2).drop (l1.length + 1) = l2 := by
    rw [show l1 ++ g :: l2 = (l1 ++ [g]) ++ l2 by simp]
    exact List.drop_left' (by simp)
  rw [e1, e2]; simp
theorem dps_app (l1 l2 : List Nd) : dps (l1 ++ l2) = dps l1 ++ dps l2 := List.map_append
theorem Stp.mid {l1 l2 : List Nd} {g c : Nd} (hc : c.d = g.d + 1) (h : Stp (l1 ++ g :: l2)) : Stp (l1 ++ g :: c :: l2) := by
  unfold Stp at *
  rw [dps_app, StD_app] at *
  obtain ⟨h1, h2, h3⟩ := h
  refine ⟨h1, h2, ?_, ?_⟩
  · show c.d ≤ g.d + 1; omega
  · exact StD.mono (by show g.d + 1 ≤ c.d + 1; omega) h3
theorem Stp.ch {t : TS} {l : List Nd} {σ : Int → Sl} (hr : RepS t l σ) {p : Int} (hu : U64 p) {x : Nd} (h : Stp l) : Stp (chL t.M.size l p x) := by
  by_cases hz : hdT t.M.size l p = 0
  · obtain ⟨l1, l2, g, rfl, ht, hf, ha, hld, hs, hok⟩ := hr.at_ hu hz
    have okg := hr.ok g (by simp)
    unfold chL
    rw [hz]
    cases (ftT t.M.size (l1 ++ g :: l2) x != 0)
    · rw [ha]
      by_cases hd : g.d ≥ 4096
      · rw [decide_eq_true hd]; exact h
      · rw [decide_eq_false hd, hf]
        have h1 := okg.d0
        have hw : IntKind.i64.wrap (g.d + 1) = g.d + 1 := by rw [wi (by omega) (by omega)]
        have e : (l1.length:Int).toNat = l1.length := by simp
        rw [hw, e]
        show Stp (putN (l1 ++ g :: l2) (l1.length + 1) { x with d := g.d + 1 })
        rw [putN_mid]
        exact Stp.mid rfl h
    · exact h
  · unfold chL
    rw [bne_iff_ne.2 hz]
    exact h
theorem dw_head {α : Type} {p : α → Bool} : ∀ {l : List α} {y : α} {r : List α}, l.dropWhile p = y :: r → p y = false
  | [], _, _, h => by cases h
  | x :: l, y, r, h => by
    rw [List.dropWhile_cons] at h
    cases hp : p x with
    | true => rw [hp] at h; exact dw_head h
    | false => rw [hp] at h; cases h; exact hp
theorem rmL_form {t : TS} {l : List Nd} {σ : Int → Sl} (h : RepS t l σ) {a : Int} (hua : U64 a) (hz : hdT t.M.size l a = 0) :
    ∃ l1 g lb l3, l = l1 ++ g :: (lb ++ l3) ∧ g.t = a ∧ (∀ y, y ∈ lb → y.d > g.d) ∧ (∀ y r, l3 = y :: r → y.d ≤ g.d) ∧ bwL l a = tA lb ∧ rmL t.M.size l a = l1 ++ (lb.map dN ++ l3) ∧ lb ++ l3 = l.drop (l1.length + 1) := by
  obtain ⟨l1, l2, g, rfl, ht, hf, ha, hld, hs, hok⟩ := h.at_ hua hz
  have hbw : bwL (l1 ++ g :: l2) a = tA (l2.takeWhile (fun x => decide (x.d > g.d))) := by
    unfold bwL
    rw [hf, ha, if_neg (by omega)]
    unfold bwT
    have : (l1 ++ g :: l2).drop ((l1.length:Int).toNat + 1) = l2 := by simp
    rw [this]
    rfl
  have hdr : l2 = (l1 ++ g :: l2).drop (l1.length + 1) := by simp
  obtain ⟨lb, l3, hlb, hsp, hdeep, h3⟩ : ∃ lb l3, lb = l2.takeWhile (fun x => decide (x.d > g.d)) ∧ l2 = lb ++ l3 ∧ (∀ y, y ∈ lb → y.d > g.d) ∧ ∀ y r, l3 = y :: r → y.d ≤ g.d := by
    refine ⟨_, l2.dropWhile (fun x => decide (x.d > g.d)), rfl, List.takeWhile_append_dropWhile.symm, fun y hy => ?_, fun y r hy => ?_⟩
    · have := mem_tw hy
      simpa using this
    · have := dw_head hy
      simpa using this
  refine ⟨l1, g, lb, l3, by rw [← hsp], ht, hdeep, h3, by rw [hbw, ← hlb], ?_, by rw [← hsp]; exact hdr⟩
  unfold rmL
  rw [hz, hbw, ← hlb]
  have hlen : (l1.length:Int).toNat = l1.length := by simp
  show rmG (fnd (l1 ++ g :: l2) a).toNat (tA lb).length 0 (l1 ++ g :: l2) = l1 ++ (lb.map dN ++ l3)
  rw [hf, hlen, rmG_A l1 0 (by omega), hsp]
  congr 1
  rw [rmG_B lb (l1.length + 1) (by omega) (by simp [tA]; omega)]
  congr 1
  apply List.map_congr_left
  intro y hy
  have h1 := hdeep y hy
  have h2 := (h.ok y (by rw [hsp]; simp [hy])).d1
  have h0 := (h.ok g (by simp)).d0
  unfold dW dN
  rw [wi (by omega) (by omega)]
theorem Stp.rm {t : TS} {l : List Nd} {σ : Int → Sl} (hr : RepS t l σ) {a : Int} (hua : U64 a) (h : Stp l) : Stp (rmL t.M.size l a) := by
  by_cases hz : hdT t.M.size l a = 0
  · obtain ⟨l1, g, lb, l3, rfl, ht, hd, h3, hb, hm, _⟩ := rmL_form hr hua hz
    rw [hm]
    unfold Stp at *
    rw [dps_app, StD_app] at *
    obtain ⟨k1, k2, k3⟩ := h
    refine ⟨k1, StD.mono k2 ?_⟩
    have k3 : StD (g.d + 1) (dps (lb ++ l3)) := k3
    rw [dps_app] at *
    have e : dps (lb.map dN) = (dps lb).map (fun x => x - 1) := by
      unfold dps
      rw [List.map_map, List.map_map]
      rfl
    rw [e]
    refine StD_shift (c := g.d) (fun y r hy => ?_) (Int.le_refl _) k3 fun y hy => ?_
    · cases l3 with
      | nil => cases hy
      | cons z q => cases hy; exact h3 z q rfl
    · obtain ⟨z, hz1, rfl⟩ := List.mem_map.1 hy
      exact hd z hz1
  · unfold rmL
    rw [bne_iff_ne.2 hz]
    exact h
theorem Stp.step {t : TS} {l : List Nd} {σ : Int → Sl} (hr : RepS t l σ) {o : Op} (ho : o.R) (h : Stp l) : Stp (mdL t.M.size l o) := by
  unfold mdL
  split
  · exact Stp.rt rfl h
  · split
    · exact Stp.ch hr ho.1 h
    · split
      · exact Stp.se h
      · split
        · exact Stp.mv h
        · split
          · exact Stp.sw h
          · split
            · exact Stp.rm hr ho.1 h
            · exact h
end Go.Sx.M

