/- Contracts of the functions of this seat, each by the executor and the kernel; part 6. Their conditions stand in each. -/
import Derived.Test.YtoldganbhlgboaaC5
set_option linter.unusedVariables false
set_option linter.unusedSimpArgs false
set_option linter.unnecessarySimpa false
namespace Go.Sx.M
open Go Go.Sx Go.Proofs Go.RowKit
set_option maxRecDepth 100000
structure S36_0 where
 x26 : Int
 R2 : th.R
 n6_1 : Nat
 xh4_1 : Int
 xh4_2 : Int
 N5 : Nat
 F5_0 : Nat → Int
 F5_1 : Nat → Int
 F5_2 : Nat → Int
 F5_3 : Nat → Int
 F5_4 : Nat → Int
 F5_5 : Nat → Int
 F5_6 : Nat → Int
 F5_7 : Nat → Int
 F5_8 : Nat → Int
noncomputable instance : Inhabited S36_0 := ⟨⟨0, dR, 0, 0, 0, 0, fun _ => 0, fun _ => 0, fun _ => 0, fun _ => 0, fun _ => 0, fun _ => 0, fun _ => 0, fun _ => 0, fun _ => 0⟩⟩
set_option maxRecDepth 100000
set_option maxRecDepth 100000
set_option maxRecDepth 100000
set_option maxRecDepth 100000
set_option maxRecDepth 100000
set_option maxRecDepth 100000
structure S112_0 where
 xh0_2 : Int
 xh0_3 : Int
 xh3_0 : Int
 xh3_1 : Int
 xh3_2 : Int
 xh3_3 : Int
noncomputable instance : Inhabited S112_0 := ⟨⟨0, 0, 0, 0, 0, 0⟩⟩
set_option maxRecDepth 100000
set_option maxRecDepth 100000
set_option maxRecDepth 100000
set_option maxRecDepth 100000
set_option maxRecDepth 100000
set_option maxRecDepth 100000
set_option maxRecDepth 100000
set_option maxRecDepth 100000
set_option maxRecDepth 100000
set_option maxRecDepth 100000
set_option maxRecDepth 100000
set_option maxRecDepth 100000
set_option maxRecDepth 100000
set_option maxRecDepth 100000
set_option maxRecDepth 100000
set_option maxRecDepth 100000
set_option maxRecDepth 100000
set_option maxRecDepth 100000
set_option maxRecDepth 100000
set_option maxRecDepth 100000
theorem hdT_nf {z a : Int} {l : List Nd} (hf : fnd l a < 0) : hdT z l a ≠ 0 := by
 unfold hdT
 rw [decide_eq_true hf]
 by_cases hm : mayT z a = 0
 ·rw [hm]; decide
 ·rw [beq_eq_false_iff_ne.2 hm]
  exact hm
def StD : Int → List Int → Prop
 | _, [] => True
 | b, x :: l => x ≤ b ∧ StD (x + 1) l
def lsD : Int → List Int → Int
 | b, [] => b
 | _, x :: l => lsD (x + 1) l
theorem StD.mono {b c : Int} (hbc : b ≤ c) : ∀ {l : List Int}, StD b l → StD c l
 | [], _ => trivial
 | _ :: _, h => ⟨Int.le_trans h.1 hbc, h.2⟩
theorem StD_app : ∀ {l1 l2 : List Int} {b : Int}, StD b (l1 ++ l2) ↔ StD b l1 ∧ StD (lsD b l1) l2
 | [], l2, b => ⟨fun h => ⟨trivial, h⟩, fun h => h.2⟩
 | x :: l1, l2, b => by
  show (x ≤ b ∧ StD (x + 1) (l1 ++ l2)) ↔ (x ≤ b ∧ StD (x + 1) l1) ∧ StD (lsD (x + 1) l1) l2
  rw [StD_app]
  exact ⟨fun h => ⟨⟨h.1, h.2.1⟩, h.2.2⟩, fun h => ⟨h.1.1, h.1.2, h.2⟩⟩
theorem StD_shift {l3 : List Int} {c : Int} (h3 : ∀ y r, l3 = y :: r → y ≤ c) : ∀ {lb : List Int} {b : Int}, c ≤ b → StD (b + 1) (lb ++ l3) → (∀ y, y ∈ lb → y > c) → StD b (lb.map (fun x => x - 1) ++ l3)
 | [], b, hb, h, _ => by
  cases l3 with
  | nil => trivial
  | cons y r => exact ⟨Int.le_trans (h3 y r rfl) hb, h.2⟩
 | x :: lb, b, hb, h, hd => by
  obtain ⟨h1, h2⟩ := h
  refine ⟨by show x - 1 ≤ b; omega, ?_⟩
  have := StD_shift h3 (lb := lb) (b := x) (by have := hd x List.mem_cons_self; omega) h2 fun y hy => hd y (List.mem_cons_of_mem _ hy)
  show StD (x - 1 + 1) (lb.map (fun x => x - 1) ++ l3)
  rw [show x - 1 + 1 = x by omega]
  exact this
def dps (l : List Nd) : List Int := l.map Nd.d
def Stp (l : List Nd) : Prop := StD 0 (dps l)
theorem dps_set {l : List Nd} {i : Nat} {y : Nd} (hy : y.d = (gN l i).d) : dps (l.set i y) = dps l := by
 unfold dps
 apply List.ext_getElem?
 intro j
 rw [List.getElem?_map, List.getElem?_map, List.getElem?_set]
 by_cases e : i = j
 ·subst e
  by_cases hi : i < l.length
  ·simp [hi, hy, gN, List.getD]
  ·simp [hi]
 ·simp [e]
theorem dps_swp (l : List Nd) (i k:Nat) (a b:Int) : dps (swpN l i k a b) = dps l := by
 unfold swpN
 cases Nat.beq i k <;> simp only [cnd_t, cnd_f]
 ·exact (dps_set (by rfl)).trans (dps_set (by rfl))
 ·exact (dps_set (by rfl)).trans ((dps_set (by rfl)).trans (dps_set (by rfl)))
theorem Stp.rt {z : Int} {l : List Nd} {x : Nd} (hx : x.d = 0) (h : Stp l) : Stp (rtL z l x) := by
 unfold rtL
 cases (ftT z l x != 0) <;> simp only [cnd_t, cnd_f]
 ·show StD 0 (x.d :: dps l)
  rw [hx]
  exact ⟨Int.le_refl _, StD.mono (by decide) h⟩
 ·exact h
theorem Stp.se {z : Int} {l : List Nd} {x : Nd} (h : Stp l) : Stp (seL z l x) := by
 unfold seL
 cases (hdT z l x.t != 0) <;> simp only [cnd_t, cnd_f]
 ·cases badC x <;> simp only [cnd_t, cnd_f]
  ·unfold Stp; rw [dps_set (by rfl)]; exact h
  ·exact h
 ·exact h
theorem Stp.mv {z : Int} {l : List Nd} {a b : Int} (h : Stp l) : Stp (mvL z l a b) := by
 unfold mvL
 cases (hdT z l a != 0) <;> simp only [cnd_t, cnd_f]
 ·cases (frT z l b != 0) <;> simp only [cnd_t, cnd_f]
  ·unfold Stp; rw [dps_set (by rfl)]; exact h
  ·exact h
 ·exact h
theorem Stp.sw {z : Int} {l : List Nd} {a b : Int} (h : Stp l) : Stp (swL z l a b) := by
 unfold swL
 cases (hdT z l a != 0) <;> simp only [cnd_t, cnd_f]
 ·cases (hdT z l b != 0) <;> simp only [cnd_t, cnd_f]
  ·unfold Stp; rw [dps_swp]; exact h
  ·exact h
 ·exact h
theorem putN_mid (l1 l2 : List Nd) (g c : Nd) : putN (l1 ++ g :: l2) (l1.length + 1) c = l1 ++ g :: c :: l2 := by
 unfold putN
 have e1 : (l1 ++ g :: l2).take (l1.length + 1) = l1 ++ [g] := by
  rw [show l1 ++ g :: l2 = (l1 ++ [g]) ++ l2 by simp]
  exact List.take_left' (by simp)
 have e2 : (l1 ++ g :: l2).drop (l1.length + 1) = l2 := by
  rw [show l1 ++ g :: l2 = (l1 ++ [g]) ++ l2 by simp]
  exact List.drop_left' (by simp)
 rw [e1, e2]; simp
theorem dps_app (l1 l2 : List Nd) : dps (l1 ++ l2) = dps l1 ++ dps l2 := List.map_append
theorem Stp.mid {l1 l2 : List Nd} {g c : Nd} (hc : c.d = g.d + 1) (h : Stp (l1 ++ g :: l2)) : Stp (l1 ++ g :: c :: l2) := by
 unfold Stp at *
 rw [dps_app, StD_app] at *
 obtain ⟨h1, h2, h3⟩ := h
 refine ⟨h1, h2, ?_, ?_⟩
 ·show c.d ≤ g.d + 1; omega
 ·exact StD.mono (by show g.d + 1 ≤ c.d + 1; omega) h3
theorem Stp.ch {t : TS} {l : List Nd} {σ : Int → Sl} (hr : RepS t l σ) {p : Int} (hu : U64 p) {x : Nd} (h : Stp l) : Stp (chL t.M.size l p x) := by
 by_cases hz : hdT t.M.size l p = 0
 ·obtain ⟨l1, l2, g, rfl, ht, hf, ha, hld, hs, hok⟩ := hr.at_ hu hz
  have okg := hr.ok g (by simp)
  unfold chL
  rw [hz]
  cases (ftT t.M.size (l1 ++ g :: l2) x != 0)
  ·rw [ha]
   by_cases hd : g.d ≥ 4096
   ·rw [decide_eq_true hd]; exact h
   ·rw [decide_eq_false hd, hf]
    have h1 := okg.d0
    have hw : IntKind.i64.wrap (g.d + 1) = g.d + 1 := by rw [wi (by omega) (by omega)]
    have e : (l1.length:Int).toNat = l1.length := by simp
    rw [hw, e]
    show Stp (putN (l1 ++ g :: l2) (l1.length + 1) { x with d := g.d + 1 })
    rw [putN_mid]
    exact Stp.mid rfl h
  ·exact h
 ·unfold chL
  rw [bne_iff_ne.2 hz]
  exact h
theorem dw_head {α : Type} {p : α → Bool} : ∀ {l : List α} {y : α} {r : List α}, l.dropWhile p = y :: r → p y = false
 | [], _, _, h => by cases h
 | x :: l, y, r, h => by
  rw [List.dropWhile_cons] at h
  cases hp : p x with
  | true => rw [hp] at h; exact dw_head h
  | false => rw [hp] at h; cases h; exact hp
theorem rmL_form {t : TS} {l : List Nd} {σ : Int → Sl} (h : RepS t l σ) {a : Int} (hua : U64 a) (hz : hdT t.M.size l a = 0) :
  ∃ l1 g lb l3, l = l1 ++ g :: (lb ++ l3) ∧ g.t = a ∧ (∀ y, y ∈ lb → y.d > g.d) ∧ (∀ y r, l3 = y :: r → y.d ≤ g.d) ∧ bwL l a = tA lb ∧ rmL t.M.size l a = l1 ++ (lb.map dN ++ l3) ∧ lb ++ l3 = l.drop (l1.length + 1) := by
 obtain ⟨l1, l2, g, rfl, ht, hf, ha, hld, hs, hok⟩ := h.at_ hua hz
 have hbw : bwL (l1 ++ g :: l2) a = tA (l2.takeWhile (fun x => decide (x.d > g.d))) := by
  unfold bwL
  rw [hf, ha, if_neg (by omega)]
  unfold bwT
  have : (l1 ++ g :: l2).drop ((l1.length:Int).toNat + 1) = l2 := by simp
  rw [this]
  rfl
 have hdr : l2 = (l1 ++ g :: l2).drop (l1.length + 1) := by simp
 obtain ⟨lb, l3, hlb, hsp, hdeep, h3⟩ : ∃ lb l3, lb = l2.takeWhile (fun x => decide (x.d > g.d)) ∧ l2 = lb ++ l3 ∧ (∀ y, y ∈ lb → y.d > g.d) ∧ ∀ y r, l3 = y :: r → y.d ≤ g.d := by
  refine ⟨_, l2.dropWhile (fun x => decide (x.d > g.d)), rfl, List.takeWhile_append_dropWhile.symm, fun y hy => ?_, fun y r hy => ?_⟩
  ·have := mem_tw hy
   simpa using this
  ·have := dw_head hy
   simpa using this
 refine ⟨l1, g, lb, l3, by rw [← hsp], ht, hdeep, h3, by rw [hbw, ← hlb], ?_, by rw [← hsp]; exact hdr⟩
 unfold rmL
 rw [hz, hbw, ← hlb]
 have hlen : (l1.length:Int).toNat = l1.length := by simp
 show rmG (fnd (l1 ++ g :: l2) a).toNat (tA lb).length 0 (l1 ++ g :: l2) = l1 ++ (lb.map dN ++ l3)
 rw [hf, hlen, rmG_A l1 0 (by omega), hsp]
 congr 1
 rw [rmG_B lb (l1.length + 1) (by omega) (by simp [tA]; omega)]
 congr 1
 apply List.map_congr_left
 intro y hy
 have h1 := hdeep y hy
 have h2 := (h.ok y (by rw [hsp]; simp [hy])).d1
 have h0 := (h.ok g (by simp)).d0
 unfold dW dN
 rw [wi (by omega) (by omega)]
theorem Stp.rm {t : TS} {l : List Nd} {σ : Int → Sl} (hr : RepS t l σ) {a : Int} (hua : U64 a) (h : Stp l) : Stp (rmL t.M.size l a) := by
 by_cases hz : hdT t.M.size l a = 0
 ·obtain ⟨l1, g, lb, l3, rfl, ht, hd, h3, hb, hm, _⟩ := rmL_form hr hua hz
  rw [hm]
  unfold Stp at *
  rw [dps_app, StD_app] at *
  obtain ⟨k1, k2, k3⟩ := h
  refine ⟨k1, StD.mono k2 ?_⟩
  have k3 : StD (g.d + 1) (dps (lb ++ l3)) := k3
  rw [dps_app] at *
  have e : dps (lb.map dN) = (dps lb).map (fun x => x - 1) := by
   unfold dps
   rw [List.map_map, List.map_map]
   rfl
  rw [e]
  refine StD_shift (c := g.d) (fun y r hy => ?_) (Int.le_refl _) k3 fun y hy => ?_
  ·cases l3 with
   | nil => cases hy
   | cons z q => cases hy; exact h3 z q rfl
  ·obtain ⟨z, hz1, rfl⟩ := List.mem_map.1 hy
   exact hd z hz1
 ·unfold rmL
  rw [bne_iff_ne.2 hz]
  exact h
theorem Stp.step {t : TS} {l : List Nd} {σ : Int → Sl} (hr : RepS t l σ) {o : Op} (ho : o.R) (h : Stp l) : Stp (mdL t.M.size l o) := by
 unfold mdL
 split
 ·exact Stp.rt rfl h
 ·split
  ·exact Stp.ch hr ho.1 h
  ·split
   ·exact Stp.se h
   ·split
    ·exact Stp.mv h
    ·split
     ·exact Stp.sw h
     ·split
      ·exact Stp.rm hr ho.1 h
      ·exact h
theorem RepS.blw_at {t : TS} {l1 l2 : List Nd} {g : Nd} {σ : Int → Sl} (h : RepS t (l1 ++ g :: l2) σ) : blw t.M t.c g.t = tA (l2.takeWhile (fun x => decide (x.d > g.d))) := by
 obtain ⟨e1, e2, e3⟩ := h.mem
 unfold blw
 rw [e1, if_neg (by simp), e2]
 have hd : (sN g (hdA l2 0) (lsA l1 0)).d = g.d := rfl
 have hx : (sN g (hdA l2 0) (lsA l1 0)).x = hdA l2 0 := rfl
 rw [hd, hx]
 have h' : RepS t ((l1 ++ [g]) ++ l2) σ := by simpa using h
 have hlen : l2.length ≤ (t.c + 1).toNat := by
  have := h.len_le
  simp only [List.length_append, List.length_cons] at this
  omega
 rw [RepS.bl h' hlen]
 rfl
theorem split_uniq : ∀ {l1 k1 l2 k2 : List Nd} {g g' : Nd}, l1 ++ g :: l2 = k1 ++ g' :: k2 → g.t = g'.t → (tA (l1 ++ g :: l2)).Nodup → l1 = k1 ∧ g = g' ∧ l2 = k2
 | [], [], l2, k2, g, g', h, _, _ => by cases h; exact ⟨rfl, rfl, rfl⟩
 | [], y :: k1, l2, k2, g, g', h, ht, hd => by
  simp only [List.nil_append, List.cons_append, List.cons.injEq] at h
  obtain ⟨rfl, rfl⟩ := h
  have hd : (g.t :: tA (k1 ++ g' :: k2)).Nodup := hd
  exact absurd (mem_tA.2 ⟨g', by simp, ht.symm⟩) (List.nodup_cons.1 hd).1
 | y :: l1, [], l2, k2, g, g', h, ht, hd => by
  simp only [List.nil_append, List.cons_append, List.cons.injEq] at h
  obtain ⟨rfl, rfl⟩ := h
  have hd : (y.t :: tA (l1 ++ g :: l2)).Nodup := hd
  exact absurd (mem_tA.2 ⟨g, by simp, ht⟩) (List.nodup_cons.1 hd).1
 | y :: l1, z :: k1, l2, k2, g, g', h, ht, hd => by
  simp only [List.cons_append, List.cons.injEq] at h
  obtain ⟨rfl, h⟩ := h
  have hd : (y.t :: tA (l1 ++ g :: l2)).Nodup := hd
  obtain ⟨rfl, rfl, rfl⟩ := split_uniq h ht (List.nodup_cons.1 hd).2
  exact ⟨rfl, rfl, rfl⟩
def parR : List Nd → Int → Int × Bool
 | [], _ => (0, false)
 | y :: r, d => if y.d < d then (y.t, true) else parR r d
noncomputable def paW (M : Mem) (c a:Int) : Int × Bool := if hdE M a ≠ 0 then (0, false) else paF M (ld M a).d (c + 1).toNat (ld M a).p
theorem lsA_snoc (k : List Nd) (y : Nd) (p:Int) : lsA (k ++ [y]) p = y.t := by
 rw [lsA_app]; rfl
theorem paF_zero (M : Mem) (d:Int) (n:Nat) : paF M d n 0 = (0, false) := by
 cases n with
 | zero => rfl
 | succ n => unfold paF; rw [if_pos rfl]
theorem RepS.pa {t : TS} {d : Int} : ∀ {k : List Nd} {r : List Nd} {σ : Int → Sl} {n : Nat}, RepS t (k.reverse ++ r) σ → k.length ≤ n → paF t.M d n (lsA k.reverse 0) = parR k d
 | [], r, σ, n, _, _ => paF_zero _ _ _
 | y :: k, r, σ, n, h, hn => by
  obtain ⟨m, rfl⟩ : ∃ m, n = m + 1 := ⟨n - 1, by simp at hn; omega⟩
  have h : RepS t (k.reverse ++ y :: r) σ := by simpa using h
  obtain ⟨e1, e2, e3⟩ := h.mem
  have hnz : y.t ≠ 0 := (h.ok y (by simp)).nz
  have e : lsA (y :: k).reverse 0 = y.t := by rw [List.reverse_cons, lsA_snoc]
  have hd : (sN y (hdA r 0) (lsA k.reverse 0)).d = y.d := rfl
  have hp : (sN y (hdA r 0) (lsA k.reverse 0)).p = lsA k.reverse 0 := rfl
  rw [e]
  unfold paF parR
  rw [if_neg hnz, if_neg (by rw [e1]; simp), e2, hd, hp]
  split
  ·rfl
  ·exact RepS.pa (r := y :: r) h (by simp at hn; omega)
theorem RepS.par {t : TS} {l1 l2 : List Nd} {g : Nd} {σ : Int → Sl} (h : RepS t (l1 ++ g :: l2) σ) : paW t.M t.c g.t = parR l1.reverse g.d := by
 obtain ⟨e1, e2, e3⟩ := h.mem
 unfold paW
 rw [e1, if_neg (by simp), e2]
 have hd : (sN g (hdA l2 0) (lsA l1 0)).d = g.d := rfl
 have hp : (sN g (hdA l2 0) (lsA l1 0)).p = lsA l1 0 := rfl
 rw [hd, hp]
 have h' : RepS t (l1.reverse.reverse ++ g :: l2) σ := by simpa using h
 have := RepS.pa (d := g.d) (n := (t.c + 1).toNat) h' (by
  have := h.len_le
  simp only [List.length_append, List.length_cons] at this
  rw [List.length_reverse]
  omega)
 rw [List.reverse_reverse] at this
 exact this
theorem RepS.fnd_k {t : TS} {l : List Nd} {σ : Int → Sl} (h : RepS t l σ) {k r : List Nd} (hk : l = k.reverse ++ r) : fnd l (lsA k.reverse 0) + 1 = k.length := by
 cases k with
 | nil =>
  rcases fnd_spec h.nd (lsA ([] : List Nd).reverse 0) with ⟨i, _, ht, _, hm, _⟩ | ⟨_, h2⟩
  ·exact absurd (mem_tA.2 ⟨_, hm, ht⟩) h.z0
  ·rw [h2]; rfl
 | cons y k =>
  have e : lsA (y :: k).reverse 0 = y.t := by rw [List.reverse_cons, lsA_snoc]
  have hk : l = k.reverse ++ y :: r := by rw [hk]; simp
  rw [e]
  rcases fnd_spec h.nd y.t with ⟨i, hi, ht, hf, _, hs⟩ | ⟨h1, _⟩
  ·rw [hf]
   have hs2 := hs
   rw [hk] at hs2
   have hn := h.nd
   rw [hk] at hn
   rw [← hk] at hs2
   obtain ⟨q, _, _⟩ := split_uniq (l1 := k.reverse) (g := y) (l2 := r) (by rw [← hk]; exact hs) ht.symm hn
   have e2 := congrArg List.length q
   rw [List.length_reverse, List.length_take] at e2
   simp only [List.length_cons]
   omega
  ·exact absurd (mem_tA.2 ⟨y, by rw [hk]; simp, rfl⟩) h1
noncomputable def abF (M : Mem) (c:Int) : Nat → Int → List Int
 | 0, _ => []
 | n + 1, a => if (paW M c a).2 = true then (paW M c a).1 :: abF M c n (paW M c a).1 else []
theorem abF_stop {M : Mem} {c : Int} {n : Nat} {a : Int} (h : n = 0 ∨ (paW M c a).2 = false) : abF M c n a = [] := by
 cases n with
 | zero => rfl
 | succ n =>
  unfold abF
  rw [if_neg (by rw [h.resolve_left (by omega)]; simp)]
theorem abF_on {M : Mem} {c : Int} {n m : Nat} {a : Int} (h : (paW M c a).2 = true) (hn : n = m + 1) : abF M c n a = (paW M c a).1 :: abF M c m (paW M c a).1 := by
 subst hn
 unfold abF
 rw [if_pos h]
 cases m <;> rfl
theorem parR_mem : ∀ {k : List Nd} {d : Int}, (parR k d).2 = true → ∃ y, y ∈ k ∧ (parR k d).1 = y.t ∧ y.d < d
 | [], d, h => by cases h
 | y :: k, d, h => by
  unfold parR at h ⊢
  by_cases hd : y.d < d
  ·rw [if_pos hd]; exact ⟨y, List.mem_cons_self, rfl, hd⟩
  ·rw [if_neg hd] at h ⊢
   obtain ⟨z, h1, h2, h3⟩ := parR_mem h
   exact ⟨z, List.mem_cons_of_mem _ h1, h2, h3⟩
theorem RepS.paU {t : TS} {l : List Nd} {σ : Int → Sl} (h : RepS t l σ) {a : Int} (hu : U64 a) (h2 : (paW t.M t.c a).2 = true) : U64 (paW t.M t.c a).1 := by
 by_cases hz : hdT t.M.size l a = 0
 ·obtain ⟨l1, l2, g, rfl, ht, _, _, _, _, _⟩ := h.at_ hu hz
  have hp := h.par
  rw [ht] at hp
  rw [hp] at h2 ⊢
  obtain ⟨y, hy, e, _⟩ := parR_mem h2
  rw [e]
  exact (h.tells (y := y) (by simp [List.mem_reverse.1 hy])).2.2.2.1
 ·unfold paW at h2
  rw [if_pos (by rw [h.hdE hu]; exact hz)] at h2
  cases h2
set_option maxRecDepth 100000
def Q81 (p : P81_0) (R : Int × Bool) (s : S81_0) : Prop := (cnd (e81_0_0 p s) 0 (cnd (e81_0_2 p s) 0 s.x8), cnd (e81_0_0 p s) false (cnd (e81_0_2 p s) false true)) = R
theorem l81 {p : P81_0} {s : S81_0} {l : List Nd} {σ : Int → Sl} (hr : RepS ⟨p.R1, p.xh0_1, p.xh0_2⟩ l σ) {R : Int × Bool} (hs : ∃ k r, l = k.reverse ++ r ∧ s.x8 = lsA k.reverse 0 ∧ parR k p.xh2_9 = R) :
  LT (r81_0 p) s ∧ Q81 p R (lastS (r81_0 p) s) := by
 refine LT.post (fun s : S81_0 => ∃ k r, l = k.reverse ++ r ∧ s.x8 = lsA k.reverse 0 ∧ parR k p.xh2_9 = R) (Q81 p R) (fun s : S81_0 => (fnd l s.x8 + 1).toNat) ?_ hs
 rintro ⟨x8⟩ ⟨k, r, g1, g2, g3⟩
 simp only at g2
 subst g2
 cases k with
 | nil =>
  have hd : e81_0_0 p ⟨lsA ([] : List Nd).reverse 0⟩ = true := rfl
  refine ⟨?_, .inl ⟨?_, ?_⟩⟩
  ·simp only [r81_0, hd, Tr.ok]
   exact ⟨fun _ => trivial, (fun e => by cases e)⟩
  ·simp only [r81_0, hd, Tr.get]
   exact ⟨_, _, _, rfl⟩
  ·unfold Q81; rw [hd, ← g3]; rfl
 | cons y k =>
  have e : lsA (y :: k).reverse 0 = y.t := by rw [List.reverse_cons, lsA_snoc]
  have hk : l = k.reverse ++ y :: r := by rw [g1]; simp
  have hm : y ∈ l := by rw [hk]; simp
  have hnz : y.t ≠ 0 := (hr.ok y hm).nz
  have hr2 := hr
  rw [hk] at hr2
  obtain ⟨e1, e2, e3⟩ := hr2.mem
  have hd : e81_0_0 p ⟨y.t⟩ = false := by
   show cnd (y.t != 0) false true = false
   rw [bne_iff_ne.2 hnz]; rfl
  have h2 : e81_0_2 p ⟨y.t⟩ = false := by
   have e1 : hdE p.R1 y.t = 0 := e1
   show (hdE p.R1 y.t != 0) = false
   rw [e1]; rfl
  have e2 : ld p.R1 y.t = sN y (hdA r 0) (lsA k.reverse 0) := e2
  have hdd : (ld p.R1 y.t).d = y.d := by rw [e2]; rfl
  have hpp : (ld p.R1 y.t).p = lsA k.reverse 0 := by rw [e2]; rfl
  rw [e]
  by_cases hlt : y.d < p.xh2_9
  ·have h3 : e81_0_3 p ⟨y.t⟩ = true := by
    show decide ((ld p.R1 y.t).d < p.xh2_9) = true
    rw [hdd]; exact decide_eq_true hlt
   refine ⟨?_, .inl ⟨?_, ?_⟩⟩
   ·simp only [r81_0, hd, h2, h3, Tr.ok]
    exact ⟨(fun e => by cases e), fun _ => ⟨e3, (fun e => by cases e), fun _ => ⟨fun _ => trivial, (fun e => by cases e)⟩⟩⟩
   ·simp only [r81_0, hd, h2, h3, Tr.get]
    exact ⟨_, _, _, rfl⟩
   ·unfold Q81
    rw [hd, h2, ← g3]
    show (y.t, true) = parR (y :: k) p.xh2_9
    unfold parR
    rw [if_pos hlt]
  ·have h3 : e81_0_3 p ⟨y.t⟩ = false := by
    show decide ((ld p.R1 y.t).d < p.xh2_9) = false
    rw [hdd]; exact decide_eq_false hlt
   simp only [r81_0, hd, h2, h3, Tr.ok, Tr.get]
   have g4 : parR k p.xh2_9 = R := by
    rw [← g3]
    show _ = parR (y :: k) p.xh2_9
    unfold parR
    rw [if_neg hlt]
    cases k <;> rfl
   have q1 := hr.fnd_k (k := y :: k) (r := r) g1
   have q2 := hr.fnd_k (k := k) (r := y :: r) hk
   rw [e] at q1
   refine ⟨⟨(fun e => by cases e), fun _ => ⟨e3, (fun e => by cases e), fun _ => ⟨(fun e => by cases e), fun _ => trivial⟩⟩⟩, .inr ⟨_, rfl, ⟨k, y :: r, hk, hpp, g4⟩, ?_⟩⟩
   show (fnd l (ld p.R1 y.t).p + 1).toNat < (fnd l y.t + 1).toNat
   rw [hpp]
   simp only [List.length_cons] at q1
   omega
def pre81 (v : V81) : Prop := U64 v.at_ ∧ TR (TS.mk v.M v.f v.c) ∧ ∃ l σ, RepS (TS.mk v.M v.f v.c) l σ
theorem n81 (v : V81) (h : pre81 v) : (f81 v).ok ∧ (f81 v).get.1 = .tup [.int .u64 (paW v.M v.c v.at_).1, .bool (paW v.M v.c v.at_).2] ∧ HOws (f81 v).get.2.1 [HO.cells 175 [.ptr 1 0, .int .u64 (v.f), .int .i64 (v.c)], HO.res v.M] := by
 obtain ⟨h1, h2, l, σ, hr⟩ := h
 by_cases hz : hdE v.M v.at_ = 0
 ·have h4 : f81_4 v = false := by unfold f81_4; rw [hz]; rfl
  have hz' : hdT v.M.size l v.at_ = 0 := by rw [← hr.hdE h1]; exact hz
  obtain ⟨l1, l2, g, rfl, ht, _, _, hld, _, _⟩ := hr.at_ h1 hz'
  have hld : ld v.M v.at_ = sN g (hdA l2 0) (lsA l1 0) := hld
  have hd : (ld v.M v.at_).d = g.d := by rw [hld]; rfl
  have hp : (ld v.M v.at_).p = lsA l1 0 := by rw [hld]; rfl
  have hpar := hr.par
  rw [ht] at hpar
  have hpar : paW v.M v.c v.at_ = parR l1.reverse g.d := hpar
  have main := l81 (p := f81_5 v) (s := ⟨(ld v.M v.at_).p⟩) (R := paW v.M v.c v.at_) hr ⟨l1.reverse, g :: l2, by simp, by show (ld v.M v.at_).p = _; rw [hp, List.reverse_reverse], by show parR l1.reverse (ld v.M v.at_).d = _; rw [hd, hpar]⟩
  obtain ⟨m1, m2⟩ := main
  have m2 : (cnd (e81_0_0 (f81_5 v) (f81_6 v)) 0 (cnd (e81_0_2 (f81_5 v) (f81_6 v)) 0 (f81_6 v).x8), cnd (e81_0_0 (f81_5 v) (f81_6 v)) false (cnd (e81_0_2 (f81_5 v) (f81_6 v)) false true)) = paW v.M v.c v.at_ := m2
  refine ⟨⟨h1, fun _ => m1, trivial⟩, ?_, .refl _⟩
  simp only [f81, Tr.get, f81_2, f81_3, f81_7, h4]
  rw [← m2]
  cases e81_0_0 (f81_5 v) (f81_6 v) <;> cases e81_0_2 (f81_5 v) (f81_6 v) <;> rfl
 ·have h4 : f81_4 v = true := by unfold f81_4; exact bne_iff_ne.2 hz
  refine ⟨⟨h1, (fun e => by rw [h4] at e; cases e), trivial⟩, ?_, .refl _⟩
  simp only [f81, Tr.get, f81_2, f81_3, h4]
  unfold paW
  rw [if_pos hz]
  rfl
noncomputable def f81n (v : V81) : Tr (Fin th.R) := .need (pre81 v) (.leaf (.tup [.int .u64 (paW v.M v.c v.at_).1, .bool (paW v.M v.c v.at_).2], [.cells 175 [.ptr 1 0, .int .u64 (v.f), .int .i64 (v.c)], .res v.M], []))
theorem s81n : Sound Try.prog th 81 (fnC d81 ofV81 f81n) := fnC_refine s81 fun v h => by
 obtain ⟨hp, _⟩ := h
 obtain ⟨a, b, c⟩ := n81 v hp
 exact ⟨a, b.symm, (qdd81 v).symm, c, by show 2 ≤ 2; decide⟩
noncomputable def nice81n : List (Nat × CF th.R) := (81, lift (fnC d81 ofV81 f81n)) :: nice12c
theorem nok81n : NiceOk Try.prog th nice81n := ⟨lift_sound s81n, nok12c⟩
set_option maxRecDepth 100000
structure V82 where
 f : Int
 c : Int
 M : th.R
def A82 (v : V82) : List SV := [.ptr 0 0]
def H82 (v : V82) : List (HO th.R) := [.cells 175 [.ptr 1 0, .int .u64 v.f, .int .i64 v.c], .res v.M]
def toV82 (v : V82) : List (Vl th.R) := [.i v.f, .i v.c, .r v.M]
def ofV82 : List (Vl th.R) → Option V82
 | [.i f, .i c, .r M] => some ⟨f, c, M⟩
 | _ => none
def d82 : Ft := ⟨[.ptr 0 0], [.cells 175 [.ptr 1 0, .int .u64, .int .i64], .res]⟩
structure P82_0 where
 n7 : Nat
 x8 : Int
 xh0_1 : Int
 xh0_2 : Int
 R1 : th.R
 N2 : Nat
 F2_0 : Nat → Int
structure S82_0 where
 n3 : Nat
 x9 : Int
 N3 : Nat
 F3_0 : Nat → Int
noncomputable instance : Inhabited S82_0 := ⟨⟨0, 0, 0, fun _ => 0⟩⟩
def I82_0 (p : P82_0) (s : S82_0) : St th.R := ⟨[some (.ptr 0 0), none, none, some (.slc 3 1 0 s.n3), none, none, none, some (.slc 2 1 0 p.n7), some (.int .i64 p.x8), some (.int .i64 s.x9), none, none, none, none, none, none, none, none, none, none, none, none, none], [.cells 175 [.ptr 1 0, .int .u64 p.xh0_1, .int .i64 p.xh0_2], .res p.R1, .row 22 1 p.N2 (fun j => [.int .u64 (p.F2_0 j)]), .row 22 1 s.N3 (fun j => [.int .u64 (s.F3_0 j)])], [], []⟩
def d82_0 : Lp := ⟨⟨23, [(0, .ptr 0 0), (3, .slc0 3 1), (7, .slc0 2 1), (8, .int .i64), (9, .int .i64)], [.cells 175 [.ptr 1 0, .int .u64, .int .i64], .res, .rowc 22 [.int .u64], .rowc 22 [.int .u64]]⟩, [⟨3, 22, 1⟩], 3, [], [3], []⟩
def toV82_0 (p : P82_0) (s : S82_0) : List (Vl th.R) := [.n s.n3, .n p.n7, .i p.x8, .i s.x9, .i p.xh0_1, .i p.xh0_2, .r p.R1, .n p.N2, .c p.F2_0, .n s.N3, .c s.F3_0]
def ofV82_0 : List (Vl th.R) → Option (P82_0 × S82_0)
 | [.n n3, .n n7, .i x8, .i x9, .i xh0_1, .i xh0_2, .r R1, .n N2, .c F2_0, .n N3, .c F3_0] => some (⟨n7, x8, xh0_1, xh0_2, R1, N2, F2_0⟩, ⟨n3, x9, N3, F3_0⟩)
 | _ => none
noncomputable def e82_0_12 (p : P82_0) (s : S82_0) : (Nat) := (0:Nat) + s.x9.toNat
noncomputable def e82_0_13 (p : P82_0) (s : S82_0) : (Int) := p.F2_0 (e82_0_12 p s)
noncomputable def e82_0_14 (p : P82_0) (s : S82_0) : (Bool) := dpE p.R1 (e82_0_13 p s) == (0:Int)
noncomputable def e82_0_15 (p : P82_0) (s : S82_0) : (Nat) := s.n3 + (1:Nat)
noncomputable def e82_0_0 (p : P82_0) (s : S82_0) : (Bool) := cnd (decide (s.x9 < p.x8)) false true
noncomputable def e82_0_1 (p : P82_0) (s : S82_0) : (Prop) := (∀ (i:Nat), scpL (0:Nat) ((fun (j:Nat) => [SV.int IntKind.u64 (p.F2_0 j)]) i) = true) ∧ ∀ (i:Nat), scpL (0:Nat) ((fun (j:Nat) => [SV.int IntKind.u64 (s.F3_0 j)]) i) = true
noncomputable def e82_0_2 (p : P82_0) (s : S82_0) : (Prop) := (0:Int) ≤ s.x9 ∧ s.x9 < (↑p.n7:Int)
noncomputable def e82_0_3 (p : P82_0) (s : S82_0) : (Prop) := e82_0_12 p s < p.N2
noncomputable def e82_0_4 (p : P82_0) (s : S82_0) : (Prop) := pre59 (V59.mk (e82_0_13 p s) p.xh0_1 p.xh0_2 p.R1)
noncomputable def e82_0_5 (p : P82_0) (s : S82_0) : (Prop) := e82_0_14 p s = true → (0:Nat) = (0:Nat) ∧ s.n3 ≤ s.N3 ∧ (1:Nat) ≤ (1:Nat) ∧ e82_0_15 p s * (4096:Nat) ≤ (140737488355328:Nat) ∧ e82_0_15 p s ≤ (9223372036854775807:Nat)
noncomputable def e82_0_6 (p : P82_0) (s : S82_0) : (Bool) := e82_0_14 p s
noncomputable def e82_0_7 (p : P82_0) (s : S82_0) : (Prop) := ((∀ (i:Nat), scpL (0:Nat) ((fun (j:Nat) => [SV.int IntKind.u64 (p.F2_0 j)]) i) = true) ∧ ∀ (i:Nat), scpL (0:Nat) ((fun (i:Nat) => rowSet (i.blt s.n3) ((fun (j:Nat) => [SV.int IntKind.u64 (s.F3_0 j)]) i) (rowEl (1:Nat) (1:Nat) (setMany (List.map (fun (i:Nat) => [SV.int IntKind.u64 (0:Int)].getD (i % (1:Nat)) Inhabited.default) (List.range (1:Nat))) (0:Nat) (SV.int IntKind.u64 (e82_0_13 p s)).cells) ((0:Nat) + (i - s.n3)))) i) = true) ∧ (∀ (i:Nat), i < p.N2 → (fun (j:Nat) => [SV.int IntKind.u64 (p.F2_0 j)]) i = elC (fun (j:Nat) => [SV.int IntKind.u64 (p.F2_0 j)]) (0:Nat) [Ck.int IntKind.u64] i) ∧ ∀ (i:Nat), i < e82_0_15 p s → (fun (i:Nat) => rowSet (i.blt s.n3) ((fun (j:Nat) => [SV.int IntKind.u64 (s.F3_0 j)]) i) (rowEl (1:Nat) (1:Nat) (setMany (List.map (fun (i:Nat) => [SV.int IntKind.u64 (0:Int)].getD (i % (1:Nat)) Inhabited.default) (List.range (1:Nat))) (0:Nat) (SV.int IntKind.u64 (e82_0_13 p s)).cells) ((0:Nat) + (i - s.n3)))) i = elC (fun (i:Nat) => rowSet (i.blt s.n3) ((fun (j:Nat) => [SV.int IntKind.u64 (s.F3_0 j)]) i) (rowEl (1:Nat) (1:Nat) (setMany (List.map (fun (i:Nat) => [SV.int IntKind.u64 (0:Int)].getD (i % (1:Nat)) Inhabited.default) (List.range (1:Nat))) (0:Nat) (SV.int IntKind.u64 (e82_0_13 p s)).cells) ((0:Nat) + (i - s.n3)))) (0:Nat) [Ck.int IntKind.u64] i
noncomputable def e82_0_8 (p : P82_0) (s : S82_0) : (Nat) := e82_0_15 p s
noncomputable def e82_0_9 (p : P82_0) (s : S82_0) : (Int) := IntKind.i64.wrap (s.x9 + (1:Int))
noncomputable def e82_0_10 (p : P82_0) (s : S82_0) : Nat → (Int) := fun (j:Nat) => cnd (j.blt s.n3) (s.F3_0 j) (e82_0_13 p s)
noncomputable def e82_0_11 (p : P82_0) (s : S82_0) : (Prop) := ((∀ (i:Nat), scpL (0:Nat) ((fun (j:Nat) => [SV.int IntKind.u64 (p.F2_0 j)]) i) = true) ∧ ∀ (i:Nat), scpL (0:Nat) ((fun (j:Nat) => [SV.int IntKind.u64 (s.F3_0 j)]) i) = true) ∧ (∀ (i:Nat), i < p.N2 → (fun (j:Nat) => [SV.int IntKind.u64 (p.F2_0 j)]) i = elC (fun (j:Nat) => [SV.int IntKind.u64 (p.F2_0 j)]) (0:Nat) [Ck.int IntKind.u64] i) ∧ ∀ (i:Nat), i < s.N3 → (fun (j:Nat) => [SV.int IntKind.u64 (s.F3_0 j)]) i = elC (fun (j:Nat) => [SV.int IntKind.u64 (s.F3_0 j)]) (0:Nat) [Ck.int IntKind.u64] i
theorem n_e82_0_1 (p : P82_0) (s : S82_0) : e82_0_1 p s := by
 unfold e82_0_1
 (repeat' first | intro _ | apply And.intro) <;> first | rfl | exact absurd (by assumption) (Nat.not_lt_zero _) | exact scpL_rowSet (by rfl) (by rfl) | exact scpL_rowEl (by kernel_rfl) _ | omega | decide
theorem n_e82_0_7 (p : P82_0) (s : S82_0) : e82_0_7 p s := by
 unfold e82_0_7
 (repeat' first | intro _ | apply And.intro) <;> first | rfl | exact absurd (by assumption) (Nat.not_lt_zero _) | exact scpL_rowSet (by rfl) (by rfl) | exact scpL_rowEl (by kernel_rfl) _ | omega | decide
theorem n_e82_0_11 (p : P82_0) (s : S82_0) : e82_0_11 p s := by
 unfold e82_0_11
 (repeat' first | intro _ | apply And.intro) <;> first | rfl | exact absurd (by assumption) (Nat.not_lt_zero _) | exact scpL_rowSet (by rfl) (by rfl) | exact scpL_rowEl (by kernel_rfl) _ | omega | decide
noncomputable def rf82_0 (p : P82_0) (s : S82_0) : Tr (Rs th.R S82_0) := (Tr.ite (e82_0_0 p s) (Tr.need (e82_0_1 p s) (Tr.leaf (Rs.out (Ex.exit (0:Nat)) [none, none, none, (some (SV.slc (3) (1:Nat) (0:Nat) (s.n3))), none, none, none, none, none, none, none, none, none, none, none, none, none, none, none, none, none, none, none] [(HO.cells (175:Nat) [(SV.ptr (1:Nat) (0:Nat)), SV.int .u64 (p.xh0_1), SV.int .i64 (p.xh0_2)]), HO.res (p.R1), (HO.row (22:Nat) (1:Nat) (p.N2) (fun j => [SV.int .u64 (p.F2_0 j)])), (HO.row (22:Nat) (1:Nat) (s.N3) (fun j => [SV.int .u64 (s.F3_0 j)]))]))) (Tr.need (e82_0_2 p s) (Tr.need (e82_0_3 p s) (Tr.need (e82_0_4 p s) (Tr.need (e82_0_5 p s) (Tr.ite (e82_0_6 p s) (Tr.need (e82_0_7 p s) (Tr.leaf (Rs.on (S82_0.mk ((e82_0_8 p s)) ((e82_0_9 p s)) ((e82_0_8 p s)) ((fun j => (e82_0_10 p s j))))))) (Tr.need (e82_0_11 p s) (Tr.leaf (Rs.on (S82_0.mk (s.n3) ((e82_0_9 p s)) (s.N3) (s.F3_0)))))))))))
noncomputable def r82_0 (p : P82_0) (s : S82_0) : Tr (Rs th.R S82_0) := (Tr.ite (e82_0_0 p s) (Tr.leaf (Rs.out (Ex.exit (0:Nat)) [none, none, none, (some (SV.slc (3) (1:Nat) (0:Nat) (s.n3))), none, none, none, none, none, none, none, none, none, none, none, none, none, none, none, none, none, none, none] [(HO.cells (175:Nat) [(SV.ptr (1:Nat) (0:Nat)), SV.int .u64 (p.xh0_1), SV.int .i64 (p.xh0_2)]), HO.res (p.R1), (HO.row (22:Nat) (1:Nat) (p.N2) (fun j => [SV.int .u64 (p.F2_0 j)])), (HO.row (22:Nat) (1:Nat) (s.N3) (fun j => [SV.int .u64 (s.F3_0 j)]))])) (Tr.need (e82_0_2 p s) (Tr.need (e82_0_3 p s) (Tr.need (e82_0_4 p s) (Tr.need (e82_0_5 p s) (Tr.ite (e82_0_6 p s) (Tr.leaf (Rs.on (S82_0.mk ((e82_0_8 p s)) ((e82_0_9 p s)) ((e82_0_8 p s)) ((fun j => (e82_0_10 p s j)))))) (Tr.leaf (Rs.on (S82_0.mk (s.n3) ((e82_0_9 p s)) (s.N3) (s.F3_0))))))))))
noncomputable def E82_0 : St th.R → Out th := evCode th Try.prog (auto th Try.prog nice81n [] 20) (autoH [] [] [] [2, 3, 22] : Hints th) (lpAt Try.prog 82 0)
theorem B82_0 : CodeSound th Try.prog (lpAt Try.prog 82 0) E82_0 := evCode_sound (T := th) (P := Try.prog) (tbl := (auto th Try.prog nice81n [] 20)) (auto_sound (nice := nice81n) (us := []) nok81n 20) (autoH [] [] [] [2, 3, 22] : Hints th) _ (LoopsOk_mem (fun _ => rfl) _ fun b hb L hL => by cases hL)
noncomputable def L82_0 : St th.R → Out th := loopL d82_0 ofV82_0 r82_0
theorem h1_82_0 (p : P82_0) (s : S82_0) : bld d82_0.tm (toV82_0 p s) = some (I82_0 p s) := by kernel_rfl
theorem h2_82_0 (l : List (Vl th.R)) (p : P82_0) (s : S82_0) (h : ofV82_0 l = some (p, s)) : l = toV82_0 p s := by
 unfold ofV82_0 at h
 split at h
 ·cases h; rfl
 ·cases h
theorem h3_82_0 (p : P82_0) (s : S82_0) : cvE d82_0 (E82_0 (I82_0 p s)) = some ((rf82_0 p s).map (Rs.map (toV82_0 p))) := by kernel_rfl
theorem h3g_82_0 (p : P82_0) (s : S82_0) : (rf82_0 p s).get = (r82_0 p s).get := by kernel_rfl
theorem h4_82_0 (p : P82_0) (s s1 : S82_0) : outH d82_0.dirt d82_0.n0 (r82_0 p s) = repH (maskH d82_0.dirt 0 d82_0.n0 (I82_0 p s1).heap) (r82_0 p s) := by kernel_rfl
theorem ls82_0 : CodeSound th Try.prog (.loop (lpAt Try.prog 82 0)) L82_0 := loopL_sound B82_0 d82_0 I82_0 toV82_0 (by kernel_rfl) h1_82_0 h2_82_0
 (fun p s => ⟨(rf82_0 p s).map (Rs.map (toV82_0 p)), h3_82_0 p s, fun h => by
  rw [Tr.map_ok]
  unfold r82_0 at h; unfold rf82_0
  simp only [Tr.ok, n_e82_0_1, n_e82_0_7, n_e82_0_11, true_and, and_true, forall_const, implies_true] at h ⊢
  try exact h, by rw [Tr.map_get, h3g_82_0 p s]⟩) h4_82_0
theorem ok82 : LoopsOk th Try.prog (autoH [(3, L82_0)] [] [] [2, 3, 22] : Hints th) (bodyOf Try.prog 82) := autoH_ok (bs := [lpAt Try.prog 82 0]) (by kernel_rfl) fun b hb L hL => by
 simp only [List.mem_cons, List.not_mem_nil, or_false] at hb
 rcases hb with rfl
 ·have e : lookL [(3, L82_0)] (firstReg (lpAt Try.prog 82 0)) = some L82_0 := by kernel_rfl
  rw [e] at hL; cases hL
  exact ls82_0
noncomputable def f82_8 (v : V82) : (S82_0) := lastS (r82_0 (P82_0.mk (chF v.M v.c.toNat v.f).length (↑(chF v.M v.c.toNat v.f).length:Int) v.f v.c v.M (chF v.M v.c.toNat v.f).length fun (j:Nat) => (chF v.M v.c.toNat v.f).getD j (0:Int))) (S82_0.mk (0:Nat) (0:Int) (0:Nat) (colI (fun (j:Nat) => []) (0:Nat)))
noncomputable def f82_0 (v : V82) : (Prop) := pre75 (V75.mk v.f v.c v.M)
noncomputable def f82_1 (v : V82) : (Prop) := ∀ (i:Nat), scpL (0:Nat) ((fun (j:Nat) => [SV.int IntKind.u64 ((chF v.M v.c.toNat v.f).getD j (0:Int))]) i) = true
noncomputable def f82_2 (v : V82) : (Prop) := (∀ (i:Nat), i < (chF v.M v.c.toNat v.f).length → (fun (j:Nat) => [SV.int IntKind.u64 ((chF v.M v.c.toNat v.f).getD j (0:Int))]) i = elC (fun (j:Nat) => [SV.int IntKind.u64 ((chF v.M v.c.toNat v.f).getD j (0:Int))]) (0:Nat) [Ck.int IntKind.u64] i) ∧ ∀ (i:Nat), i < (0:Nat) → (fun (j:Nat) => []) i = elC (fun (j:Nat) => []) (0:Nat) [Ck.int IntKind.u64] i
noncomputable def f82_3 (v : V82) : (Prop) := LT (r82_0 (P82_0.mk (chF v.M v.c.toNat v.f).length (↑(chF v.M v.c.toNat v.f).length:Int) v.f v.c v.M (chF v.M v.c.toNat v.f).length fun (j:Nat) => (chF v.M v.c.toNat v.f).getD j (0:Int))) (S82_0.mk (0:Nat) (0:Int) (0:Nat) (colI (fun (j:Nat) => []) (0:Nat)))
noncomputable def f82_4 (v : V82) : (Prop) := ∀ (i:Nat), scpL (0:Nat) ((fun (j:Nat) => [SV.int IntKind.u64 ((f82_8 v).F3_0 j)]) i) = true
noncomputable def f82_5 (v : V82) : (Nat) := (f82_8 v).n3
noncomputable def f82_6 (v : V82) : (Nat) := (f82_8 v).N3
noncomputable def f82_7 (v : V82) : Nat → (Int) := fun (j:Nat) => (f82_8 v).F3_0 j
theorem n_f82_1 (v : V82) : f82_1 v := by
 unfold f82_1
 (repeat' first | intro _ | apply And.intro) <;> first | rfl | exact absurd (by assumption) (Nat.not_lt_zero _) | exact scpL_rowSet (by rfl) (by rfl) | exact scpL_rowEl (by kernel_rfl) _ | omega | decide
theorem n_f82_2 (v : V82) : f82_2 v := by
 unfold f82_2
 (repeat' first | intro _ | apply And.intro) <;> first | rfl | exact absurd (by assumption) (Nat.not_lt_zero _) | exact scpL_rowSet (by rfl) (by rfl) | exact scpL_rowEl (by kernel_rfl) _ | omega | decide
theorem n_f82_4 (v : V82) : f82_4 v := by
 unfold f82_4
 (repeat' first | intro _ | apply And.intro) <;> first | rfl | exact absurd (by assumption) (Nat.not_lt_zero _) | exact scpL_rowSet (by rfl) (by rfl) | exact scpL_rowEl (by kernel_rfl) _ | omega | decide
noncomputable def ff82 (v : V82) : Tr (Fin th.R) := (Tr.need (f82_0 v) (Tr.need (f82_1 v) (Tr.need (f82_2 v) (Tr.need (f82_3 v) (Tr.need (f82_4 v) (Tr.leaf ((SV.slc (2) (1:Nat) (0:Nat) (f82_5 v)), [(HO.cells (175:Nat) [(SV.ptr (1:Nat) (0:Nat)), SV.int .u64 (v.f), SV.int .i64 (v.c)]), HO.res (v.M), (HO.row (22:Nat) (1:Nat) (f82_6 v) (fun j => [SV.int .u64 (f82_7 v j)]))], [nat_lit 1, nat_lit 0])))))))
noncomputable def f82 (v : V82) : Tr (Fin th.R) := (Tr.need (f82_0 v) (Tr.need (f82_3 v) (Tr.leaf ((SV.slc (2) (1:Nat) (0:Nat) (f82_5 v)), [(HO.cells (175:Nat) [(SV.ptr (1:Nat) (0:Nat)), SV.int .u64 (v.f), SV.int .i64 (v.c)]), HO.res (v.M), (HO.row (22:Nat) (1:Nat) (f82_6 v) (fun j => [SV.int .u64 (f82_7 v j)]))], [0, 1]))))
noncomputable def C82 : CF th.R := fnC d82 ofV82 (f82 )
theorem q82 (v : V82) : (normC (nilC 22 1 (evFn th Try.prog (auto th Try.prog nice81n [] 20) (autoH [(3, L82_0)] [] [] [2, 3, 22] : Hints th) 82))) (A82 v) (H82 v) = some (ff82 v) := by kernel_rfl
theorem qg82 (v : V82) : ((ff82 v).map (setD [0, 1])).get = (f82 v).get := by kernel_rfl
theorem qd82 (v : V82) : allD 2 [0, 1] (ff82 v) = true := by kernel_rfl
theorem s82 : Sound Try.prog th 82 (C82 ) := fnC_sound (normC_sound (nilC_sound (evFn_sound' (T := th) (P := Try.prog) (tbl := (auto th Try.prog nice81n [] 20)) (auto_sound (nice := nice81n) (us := []) nok81n 20) (H := (autoH [(3, L82_0)] [] [] [2, 3, 22] : Hints th)) (k := 82) (fnLoops ok82)))) d82 A82 H82 toV82 (by kernel_rfl) (fun v => by kernel_rfl)
 (fun l v h => by
  unfold ofV82 at h
  split at h
  ·cases h; rfl
  ·cases h)
 [0, 1] (fun v => ⟨ff82 v, q82 v, fun h => by
  unfold f82 at h; unfold ff82
  simp only [Tr.ok, n_f82_1, n_f82_2, n_f82_4, true_and, and_true, forall_const, implies_true] at h ⊢
  try exact h, qg82 v, qd82 v⟩)
theorem qdd82 (v : V82) : (f82 v).get.2.2 = [0, 1] := by
 rw [← qg82, Tr.map_get]; rfl
set_option maxRecDepth 100000
structure V83 where
 at_ : Int
 f : Int
 c : Int
 M : th.R
def A83 (v : V83) : List SV := [.ptr 0 0, .int .u64 v.at_]
def H83 (v : V83) : List (HO th.R) := [.cells 175 [.ptr 1 0, .int .u64 v.f, .int .i64 v.c], .res v.M]
def toV83 (v : V83) : List (Vl th.R) := [.i v.at_, .i v.f, .i v.c, .r v.M]
def ofV83 : List (Vl th.R) → Option V83
 | [.i at_, .i f, .i c, .r M] => some ⟨at_, f, c, M⟩
 | _ => none
def d83 : Ft := ⟨[.ptr 0 0, .int .u64], [.cells 175 [.ptr 1 0, .int .u64, .int .i64], .res]⟩
structure P83_0 where
 xh0_1 : Int
 xh0_2 : Int
 R1 : th.R
structure S83_0 where
 x1 : Int
 n5 : Nat
 N2 : Nat
 F2_0 : Nat → Int
noncomputable instance : Inhabited S83_0 := ⟨⟨0, 0, 0, fun _ => 0⟩⟩
def I83_0 (p : P83_0) (s : S83_0) : St th.R := ⟨[some (.ptr 0 0), some (.int .u64 s.x1), none, none, some (.nils), some (.slc 2 1 0 s.n5), none, none, none, none, none, none, none, none, none, none, none, none, none, none, none, none, none, none, none, none, none, none, none, none, none], [.cells 175 [.ptr 1 0, .int .u64 p.xh0_1, .int .i64 p.xh0_2], .res p.R1, .row 22 1 s.N2 (fun j => [.int .u64 (s.F2_0 j)])], [], []⟩
def d83_0 : Lp := ⟨⟨31, [(0, .ptr 0 0), (1, .int .u64), (4, .nils), (5, .slc0 2 1)], [.cells 175 [.ptr 1 0, .int .u64, .int .i64], .res, .rowc 22 [.int .u64]]⟩, [⟨5, 22, 1⟩], 2, [], [4], []⟩
def toV83_0 (p : P83_0) (s : S83_0) : List (Vl th.R) := [.i s.x1, .n s.n5, .i p.xh0_1, .i p.xh0_2, .r p.R1, .n s.N2, .c s.F2_0]
def ofV83_0 : List (Vl th.R) → Option (P83_0 × S83_0)
 | [.i x1, .n n5, .i xh0_1, .i xh0_2, .r R1, .n N2, .c F2_0] => some (⟨xh0_1, xh0_2, R1⟩, ⟨x1, n5, N2, F2_0⟩)
 | _ => none
noncomputable def e83_0_8 (p : P83_0) (s : S83_0) : (Nat) := s.n5 + (1:Nat)
noncomputable def e83_0_0 (p : P83_0) (s : S83_0) : (Prop) := pre81 (V81.mk s.x1 p.xh0_1 p.xh0_2 p.R1)
noncomputable def e83_0_1 (p : P83_0) (s : S83_0) : (Bool) := cnd (!(paW p.R1 p.xh0_2 s.x1).snd) true (decide ((↑s.n5:Int) > p.xh0_2))
noncomputable def e83_0_2 (p : P83_0) (s : S83_0) : (Prop) := ∀ (i:Nat), scpL (0:Nat) ((fun (j:Nat) => [SV.int IntKind.u64 (s.F2_0 j)]) i) = true
noncomputable def e83_0_3 (p : P83_0) (s : S83_0) : (Prop) := (0:Nat) = (0:Nat) ∧ s.n5 ≤ s.N2 ∧ (1:Nat) ≤ (1:Nat) ∧ e83_0_8 p s * (4096:Nat) ≤ (140737488355328:Nat) ∧ e83_0_8 p s ≤ (9223372036854775807:Nat)
noncomputable def e83_0_4 (p : P83_0) (s : S83_0) : (Prop) := (∀ (i:Nat), scpL (0:Nat) ((fun (i:Nat) => rowSet (i.blt s.n5) ((fun (j:Nat) => [SV.int IntKind.u64 (s.F2_0 j)]) i) (rowEl (1:Nat) (1:Nat) (setMany (List.map (fun (i:Nat) => [SV.int IntKind.u64 (0:Int)].getD (i % (1:Nat)) Inhabited.default) (List.range (1:Nat))) (0:Nat) (SV.int IntKind.u64 (paW p.R1 p.xh0_2 s.x1).fst).cells) ((0:Nat) + (i - s.n5)))) i) = true) ∧ ∀ (i:Nat), i < e83_0_8 p s → (fun (i:Nat) => rowSet (i.blt s.n5) ((fun (j:Nat) => [SV.int IntKind.u64 (s.F2_0 j)]) i) (rowEl (1:Nat) (1:Nat) (setMany (List.map (fun (i:Nat) => [SV.int IntKind.u64 (0:Int)].getD (i % (1:Nat)) Inhabited.default) (List.range (1:Nat))) (0:Nat) (SV.int IntKind.u64 (paW p.R1 p.xh0_2 s.x1).fst).cells) ((0:Nat) + (i - s.n5)))) i = elC (fun (i:Nat) => rowSet (i.blt s.n5) ((fun (j:Nat) => [SV.int IntKind.u64 (s.F2_0 j)]) i) (rowEl (1:Nat) (1:Nat) (setMany (List.map (fun (i:Nat) => [SV.int IntKind.u64 (0:Int)].getD (i % (1:Nat)) Inhabited.default) (List.range (1:Nat))) (0:Nat) (SV.int IntKind.u64 (paW p.R1 p.xh0_2 s.x1).fst).cells) ((0:Nat) + (i - s.n5)))) (0:Nat) [Ck.int IntKind.u64] i
noncomputable def e83_0_5 (p : P83_0) (s : S83_0) : (Int) := (paW p.R1 p.xh0_2 s.x1).fst
noncomputable def e83_0_6 (p : P83_0) (s : S83_0) : (Nat) := e83_0_8 p s
noncomputable def e83_0_7 (p : P83_0) (s : S83_0) : Nat → (Int) := fun (j:Nat) => cnd (j.blt s.n5) (s.F2_0 j) (paW p.R1 p.xh0_2 s.x1).fst
theorem n_e83_0_2 (p : P83_0) (s : S83_0) : e83_0_2 p s := by
 unfold e83_0_2
 (repeat' first | intro _ | apply And.intro) <;> first | rfl | exact absurd (by assumption) (Nat.not_lt_zero _) | exact scpL_rowSet (by rfl) (by rfl) | exact scpL_rowEl (by kernel_rfl) _ | omega | decide
theorem n_e83_0_4 (p : P83_0) (s : S83_0) : e83_0_4 p s := by
 unfold e83_0_4
 (repeat' first | intro _ | apply And.intro) <;> first | rfl | exact absurd (by assumption) (Nat.not_lt_zero _) | exact scpL_rowSet (by rfl) (by rfl) | exact scpL_rowEl (by kernel_rfl) _ | omega | decide
noncomputable def rf83_0 (p : P83_0) (s : S83_0) : Tr (Rs th.R S83_0) := (Tr.need (e83_0_0 p s) (Tr.ite (e83_0_1 p s) (Tr.need (e83_0_2 p s) (Tr.leaf (Rs.out (Ex.ret) [none, none, none, none, (some (SV.slc (2) (1:Nat) (0:Nat) (s.n5))), none, none, none, none, none, none, none, none, none, none, none, none, none, none, none, none, none, none, none, none, none, none, none, none, none, none] [(HO.cells (175:Nat) [(SV.ptr (1:Nat) (0:Nat)), SV.int .u64 (p.xh0_1), SV.int .i64 (p.xh0_2)]), HO.res (p.R1), (HO.row (22:Nat) (1:Nat) (s.N2) (fun j => [SV.int .u64 (s.F2_0 j)]))]))) (Tr.need (e83_0_3 p s) (Tr.need (e83_0_4 p s) (Tr.leaf (Rs.on (S83_0.mk ((e83_0_5 p s)) ((e83_0_6 p s)) ((e83_0_6 p s)) ((fun j => (e83_0_7 p s j))))))))))
noncomputable def r83_0 (p : P83_0) (s : S83_0) : Tr (Rs th.R S83_0) := (Tr.need (e83_0_0 p s) (Tr.ite (e83_0_1 p s) (Tr.leaf (Rs.out (Ex.ret) [none, none, none, none, (some (SV.slc (2) (1:Nat) (0:Nat) (s.n5))), none, none, none, none, none, none, none, none, none, none, none, none, none, none, none, none, none, none, none, none, none, none, none, none, none, none] [(HO.cells (175:Nat) [(SV.ptr (1:Nat) (0:Nat)), SV.int .u64 (p.xh0_1), SV.int .i64 (p.xh0_2)]), HO.res (p.R1), (HO.row (22:Nat) (1:Nat) (s.N2) (fun j => [SV.int .u64 (s.F2_0 j)]))])) (Tr.need (e83_0_3 p s) (Tr.leaf (Rs.on (S83_0.mk ((e83_0_5 p s)) ((e83_0_6 p s)) ((e83_0_6 p s)) ((fun j => (e83_0_7 p s j)))))))))
noncomputable def E83_0 : St th.R → Out th := evCode th Try.prog (auto th Try.prog nice81n [] 20) (autoH [] [] [] [5] : Hints th) (lpAt Try.prog 83 0)
theorem B83_0 : CodeSound th Try.prog (lpAt Try.prog 83 0) E83_0 := evCode_sound (T := th) (P := Try.prog) (tbl := (auto th Try.prog nice81n [] 20)) (auto_sound (nice := nice81n) (us := []) nok81n 20) (autoH [] [] [] [5] : Hints th) _ (LoopsOk_mem (fun _ => rfl) _ fun b hb L hL => by cases hL)
noncomputable def L83_0 : St th.R → Out th := loopL d83_0 ofV83_0 r83_0
theorem h1_83_0 (p : P83_0) (s : S83_0) : bld d83_0.tm (toV83_0 p s) = some (I83_0 p s) := by kernel_rfl
theorem h2_83_0 (l : List (Vl th.R)) (p : P83_0) (s : S83_0) (h : ofV83_0 l = some (p, s)) : l = toV83_0 p s := by
 unfold ofV83_0 at h
 split at h
 ·cases h; rfl
 ·cases h
theorem h3_83_0 (p : P83_0) (s : S83_0) : cvE d83_0 (E83_0 (I83_0 p s)) = some ((rf83_0 p s).map (Rs.map (toV83_0 p))) := by kernel_rfl
theorem h3g_83_0 (p : P83_0) (s : S83_0) : (rf83_0 p s).get = (r83_0 p s).get := by kernel_rfl
theorem h4_83_0 (p : P83_0) (s s1 : S83_0) : outH d83_0.dirt d83_0.n0 (r83_0 p s) = repH (maskH d83_0.dirt 0 d83_0.n0 (I83_0 p s1).heap) (r83_0 p s) := by kernel_rfl
theorem ls83_0 : CodeSound th Try.prog (.loop (lpAt Try.prog 83 0)) L83_0 := loopL_sound B83_0 d83_0 I83_0 toV83_0 (by kernel_rfl) h1_83_0 h2_83_0
 (fun p s => ⟨(rf83_0 p s).map (Rs.map (toV83_0 p)), h3_83_0 p s, fun h => by
  rw [Tr.map_ok]
  unfold r83_0 at h; unfold rf83_0
  simp only [Tr.ok, n_e83_0_2, n_e83_0_4, true_and, and_true, forall_const, implies_true] at h ⊢
  try exact h, by rw [Tr.map_get, h3g_83_0 p s]⟩) h4_83_0
theorem ok83 : LoopsOk th Try.prog (autoH [(2, L83_0)] [] [] [5] : Hints th) (bodyOf Try.prog 83) := autoH_ok (bs := [lpAt Try.prog 83 0]) (by kernel_rfl) fun b hb L hL => by
 simp only [List.mem_cons, List.not_mem_nil, or_false] at hb
 rcases hb with rfl
 ·have e : lookL [(2, L83_0)] (firstReg (lpAt Try.prog 83 0)) = some L83_0 := by kernel_rfl
  rw [e] at hL; cases hL
  exact ls83_0
noncomputable def f83_6 (v : V83) : (S83_0) := S83_0.mk v.at_ (0:Nat) (0:Nat) (colI (fun (j:Nat) => []) (0:Nat))
noncomputable def f83_7 (v : V83) : (S83_0) := lastS (r83_0 (P83_0.mk v.f v.c v.M)) (f83_6 v)
noncomputable def f83_0 (v : V83) : (Prop) := ∀ (i:Nat), i < (0:Nat) → (fun (j:Nat) => []) i = elC (fun (j:Nat) => []) (0:Nat) [Ck.int IntKind.u64] i
noncomputable def f83_1 (v : V83) : (Prop) := LT (r83_0 (P83_0.mk v.f v.c v.M)) (f83_6 v)
noncomputable def f83_2 (v : V83) : (Prop) := ∀ (i:Nat), scpL (0:Nat) ((fun (j:Nat) => [SV.int IntKind.u64 ((f83_7 v).F2_0 j)]) i) = true
noncomputable def f83_3 (v : V83) : (Nat) := (f83_7 v).n5
noncomputable def f83_4 (v : V83) : (Nat) := (f83_7 v).N2
noncomputable def f83_5 (v : V83) : Nat → (Int) := fun (j:Nat) => (f83_7 v).F2_0 j
theorem n_f83_0 (v : V83) : f83_0 v := by
 unfold f83_0
 (repeat' first | intro _ | apply And.intro) <;> first | rfl | exact absurd (by assumption) (Nat.not_lt_zero _) | exact scpL_rowSet (by rfl) (by rfl) | exact scpL_rowEl (by kernel_rfl) _ | omega | decide
theorem n_f83_2 (v : V83) : f83_2 v := by
 unfold f83_2
 (repeat' first | intro _ | apply And.intro) <;> first | rfl | exact absurd (by assumption) (Nat.not_lt_zero _) | exact scpL_rowSet (by rfl) (by rfl) | exact scpL_rowEl (by kernel_rfl) _ | omega | decide
noncomputable def ff83 (v : V83) : Tr (Fin th.R) := (Tr.need (f83_0 v) (Tr.need (f83_1 v) (Tr.need (f83_2 v) (Tr.leaf ((SV.slc (2) (1:Nat) (0:Nat) (f83_3 v)), [(HO.cells (175:Nat) [(SV.ptr (1:Nat) (0:Nat)), SV.int .u64 (v.f), SV.int .i64 (v.c)]), HO.res (v.M), (HO.row (22:Nat) (1:Nat) (f83_4 v) (fun j => [SV.int .u64 (f83_5 v j)]))], [nat_lit 1, nat_lit 0])))))
noncomputable def f83 (v : V83) : Tr (Fin th.R) := (Tr.need (f83_1 v) (Tr.leaf ((SV.slc (2) (1:Nat) (0:Nat) (f83_3 v)), [(HO.cells (175:Nat) [(SV.ptr (1:Nat) (0:Nat)), SV.int .u64 (v.f), SV.int .i64 (v.c)]), HO.res (v.M), (HO.row (22:Nat) (1:Nat) (f83_4 v) (fun j => [SV.int .u64 (f83_5 v j)]))], [0, 1])))
noncomputable def C83 : CF th.R := fnC d83 ofV83 (f83 )
theorem q83 (v : V83) : (normC (nilC 22 1 (evFn th Try.prog (auto th Try.prog nice81n [] 20) (autoH [(2, L83_0)] [] [] [5] : Hints th) 83))) (A83 v) (H83 v) = some (ff83 v) := by kernel_rfl
theorem qg83 (v : V83) : ((ff83 v).map (setD [0, 1])).get = (f83 v).get := by kernel_rfl
theorem qd83 (v : V83) : allD 2 [0, 1] (ff83 v) = true := by kernel_rfl
theorem s83 : Sound Try.prog th 83 (C83 ) := fnC_sound (normC_sound (nilC_sound (evFn_sound' (T := th) (P := Try.prog) (tbl := (auto th Try.prog nice81n [] 20)) (auto_sound (nice := nice81n) (us := []) nok81n 20) (H := (autoH [(2, L83_0)] [] [] [5] : Hints th)) (k := 83) (fnLoops ok83)))) d83 A83 H83 toV83 (by kernel_rfl) (fun v => by kernel_rfl)
 (fun l v h => by
  unfold ofV83 at h
  split at h
  ·cases h; rfl
  ·cases h)
 [0, 1] (fun v => ⟨ff83 v, q83 v, fun h => by
  unfold f83 at h; unfold ff83
  simp only [Tr.ok, n_f83_0, n_f83_2, true_and, and_true, forall_const, implies_true] at h ⊢
  try exact h, qg83 v, qd83 v⟩)
theorem qdd83 (v : V83) : (f83 v).get.2.2 = [0, 1] := by
 rw [← qg83, Tr.map_get]; rfl
set_option maxRecDepth 100000
def Q83 (L : List Int) (s : S83_0) : Prop := s.N2 = s.n5 ∧ ls s.F2_0 s.n5 = L
theorem l83 {p : P83_0} {s : S83_0} {L : List Int} {l : List Nd} {σ : Int → Sl} (hr : RepS ⟨p.R1, p.xh0_1, p.xh0_2⟩ l σ) (ht : TR ⟨p.R1, p.xh0_1, p.xh0_2⟩) (hc : p.xh0_2 ≤ 100000) (hu : U64 s.x1) (hs : s.n5 = 0 ∧ s.N2 = 0) (hL : abF p.R1 p.xh0_2 (p.xh0_2 + 1).toNat s.x1 = L) : LT (r83_0 p) s ∧ Q83 L (lastS (r83_0 p) s) := by
 refine LT.post (fun s : S83_0 => s.N2 = s.n5 ∧ U64 s.x1 ∧ s.n5 ≤ (p.xh0_2 + 1).toNat ∧ ls s.F2_0 s.n5 ++ abF p.R1 p.xh0_2 ((p.xh0_2 + 1).toNat - s.n5) s.x1 = L) (Q83 L) (fun s : S83_0 => (p.xh0_2 + 1).toNat - s.n5) ?_ ?_
 rotate_left
 ·refine ⟨by rw [hs.1, hs.2], hu, by rw [hs.1]; exact Nat.zero_le _, ?_⟩
  rw [hs.1]
  exact hL
 rintro ⟨x1, n5, N2, F⟩ ⟨g1, g2, g3, g4⟩
 simp only at g1 g2 g3 g4
 subst g1
 have n0 : pre81 ⟨x1, p.xh0_1, p.xh0_2, p.R1⟩ := ⟨g2, ht, l, σ, hr⟩
 by_cases hb : (paW p.R1 p.xh0_2 x1).2 = false ∨ (N2:Int) > p.xh0_2
 ·have h1 : e83_0_1 p ⟨x1, N2, N2, F⟩ = true := by
   show cnd (!(paW p.R1 p.xh0_2 x1).2) true (decide ((N2:Int) > p.xh0_2)) = true
   rcases hb with e | e
   ·rw [e]; rfl
   ·rw [decide_eq_true e]; exact cnd_same _ _
  have g4 := app_nil g4 (abF_stop (hb.elim .inr fun e => .inl (by omega)))
  simp only [r83_0, h1, Tr.ok, Tr.get]
  exact ⟨⟨n0, fun _ => trivial, (fun e => by cases e)⟩, .inl ⟨⟨_, _, _, rfl⟩, rfl, g4⟩⟩
 ·have hb1 : (paW p.R1 p.xh0_2 x1).2 = true := by
   cases h : (paW p.R1 p.xh0_2 x1).2 with
   | true => rfl
   | false => exact absurd (.inl h) hb
  have hb2 : ¬ ((N2:Int) > p.xh0_2) := fun e => hb (.inr e)
  have h1 : e83_0_1 p ⟨x1, N2, N2, F⟩ = false := by
   show cnd (!(paW p.R1 p.xh0_2 x1).2) true (decide ((N2:Int) > p.xh0_2)) = false
   rw [hb1, decide_eq_false hb2]; rfl
  obtain ⟨m, hm⟩ : ∃ m, (p.xh0_2 + 1).toNat - N2 = m + 1 := ⟨(p.xh0_2 + 1).toNat - N2 - 1, by omega⟩
  have g4 := app_eq g4 (abF_on hb1 hm)
  simp only [r83_0, h1, Tr.ok, Tr.get]
  refine ⟨⟨n0, (fun e => by cases e), fun _ => ⟨⟨rfl, Nat.le_refl _, Nat.le_refl _, by show (N2 + 1) * 4096 ≤ _; omega, by show N2 + 1 ≤ _; omega⟩, trivial⟩⟩, .inr ⟨_, rfl, ⟨rfl, hr.paU g2 hb1, by show N2 + 1 ≤ _; omega, ?_⟩, by show (p.xh0_2 + 1).toNat - (N2 + 1) < (p.xh0_2 + 1).toNat - N2; omega⟩⟩
  show ls (fun j => cnd (Nat.blt j N2) (F j) (paW p.R1 p.xh0_2 x1).1) (N2 + 1) ++ abF p.R1 p.xh0_2 ((p.xh0_2 + 1).toNat - (N2 + 1)) (paW p.R1 p.xh0_2 x1).1 = L
  rw [ls_push, List.append_assoc, show (p.xh0_2 + 1).toNat - (N2 + 1) = m by omega]
  exact g4
def pre83 (v : V83) : Prop := U64 v.at_ ∧ TR (TS.mk v.M v.f v.c) ∧ v.c ≤ 100000 ∧ ∃ l σ, RepS (TS.mk v.M v.f v.c) l σ
theorem n83 (v : V83) (h : pre83 v) : (f83 v).ok ∧ (f83 v).get.1 = .slc 2 1 0 (abF v.M v.c (v.c + 1).toNat v.at_).length ∧ HOws (f83 v).get.2.1 [HO.cells 175 [.ptr 1 0, .int .u64 (v.f), .int .i64 (v.c)], HO.res v.M, HO.row 22 1 ((abF v.M v.c (v.c + 1).toNat v.at_)).length (fun j => [.int .u64 (((abF v.M v.c (v.c + 1).toNat v.at_)).getD j 0)])] := by
 obtain ⟨h0, h1, h4, l, σ, hr⟩ := h
 obtain ⟨m1, k2, k3⟩ := l83 (p := P83_0.mk v.f v.c v.M) (s := f83_6 v) (L := abF v.M v.c (v.c + 1).toNat v.at_) hr h1 h4 h0 ⟨rfl, rfl⟩ rfl
 have hl : (abF v.M v.c (v.c + 1).toNat v.at_).length = (f83_7 v).n5 := by rw [← k3, ls_len]; rfl
 refine ⟨⟨m1, trivial⟩, ?_, ?_⟩
 ·simp only [f83, Tr.get, f83_3, hl]
 ·simp only [f83, Tr.get, f83_4, f83_5]
  exact .cons (.inl rfl) (.cons (.inl rfl) (.cons (rowL k2 k3) .nil))
noncomputable def f83n (v : V83) : Tr (Fin th.R) := .need (pre83 v) (.leaf (.slc 2 1 0 (abF v.M v.c (v.c + 1).toNat v.at_).length, [.cells 175 [.ptr 1 0, .int .u64 (v.f), .int .i64 (v.c)], .res v.M, .row 22 1 ((abF v.M v.c (v.c + 1).toNat v.at_)).length (fun j => [.int .u64 (((abF v.M v.c (v.c + 1).toNat v.at_)).getD j 0)])], [0, 1]))
theorem s83n : Sound Try.prog th 83 (fnC d83 ofV83 f83n) := fnC_refine s83 fun v h => by
 obtain ⟨hp, _⟩ := h
 obtain ⟨a, b, c⟩ := n83 v hp
 exact ⟨a, b.symm, (qdd83 v).symm, c, by show 2 ≤ 3; decide⟩
noncomputable def nice83n : List (Nat × CF th.R) := (83, lift (fnC d83 ofV83 f83n)) :: nice81n
theorem nok83n : NiceOk Try.prog th nice83n := ⟨lift_sound s83n, nok81n⟩
set_option maxRecDepth 100000
theorem ls_succ (F : Nat → Int) (n:Nat) : ls F (n + 1) = ls F n ++ [F n] := by simp [ls, List.range_succ]
theorem ls_gd (L : List Int) : ls (fun j => L.getD j 0) L.length = L := by
 unfold ls
 apply List.ext_getElem
 ·simp
 ·intro i h1 h2
  simp [List.getD, h2]
def Q82 (L : List Int) (s : S82_0) : Prop := s.N3 = s.n3 ∧ ls s.F3_0 s.n3 = L
theorem l82 {p : P82_0} {s : S82_0} (hp : p.N2 = p.n7 ∧ p.n7 ≤ 100000 ∧ p.x8 = p.n7) (hu : ∀ j, j < p.n7 → U64 (p.F2_0 j)) (hs : s.n3 = 0 ∧ s.N3 = 0 ∧ s.x9 = 0) : LT (r82_0 p) s ∧ Q82 ((ls p.F2_0 p.n7).filter (fun a => dpE p.R1 a == 0)) (lastS (r82_0 p) s) := by
 obtain ⟨hN, hL, h8⟩ := hp
 refine LT.post (fun s : S82_0 => ∃ k : Nat, s.x9 = k ∧ k ≤ p.n7 ∧ s.N3 = s.n3 ∧ s.n3 ≤ k ∧ ls s.F3_0 s.n3 = (ls p.F2_0 k).filter (fun a => dpE p.R1 a == 0)) (Q82 _) (fun s : S82_0 => (p.n7 - s.x9).toNat) ?_ ⟨0, hs.2.2, Nat.zero_le _, by rw [hs.1, hs.2.1], by rw [hs.1]; exact Nat.le_refl _, by rw [hs.1]; rfl⟩
 rintro ⟨n3, x9, N3, F⟩ ⟨k, g1, g2, g3, g4, g5⟩
 simp only at g1 g3 g4 g5
 subst g1 g3
 have w2 : IntKind.i64.wrap ((k:Int) + 1) = ((k + 1:Nat):Int) := by rw [wi (by omega) (by omega)]; omega
 have e12 : e82_0_12 p ⟨N3, k, N3, F⟩ = k := by show 0 + (k:Int).toNat = k; omega
 by_cases hc : k < p.n7
 ·have hd : e82_0_0 p ⟨N3, k, N3, F⟩ = false := by
   show cnd (decide ((k:Int) < p.x8)) false true = false
   rw [h8, decide_eq_true (by omega)]; rfl
  have e13 : e82_0_13 p ⟨N3, k, N3, F⟩ = p.F2_0 k := by unfold e82_0_13; rw [e12]
  have hf : (ls p.F2_0 (k + 1)).filter (fun a => dpE p.R1 a == 0) = ls F N3 ++ [p.F2_0 k].filter (fun a => dpE p.R1 a == 0) := by rw [ls_succ, List.filter_append, g5]
  have nn : e82_0_2 p ⟨N3, k, N3, F⟩ ∧ e82_0_3 p ⟨N3, k, N3, F⟩ ∧ e82_0_4 p ⟨N3, k, N3, F⟩ ∧ e82_0_5 p ⟨N3, k, N3, F⟩ := ⟨⟨by show (0:Int) ≤ k; omega, by show (k:Int) < p.n7; omega⟩, by show e82_0_12 p _ < p.N2; rw [e12, hN]; exact hc, by show U64 (e82_0_13 p _); rw [e13]; exact hu k hc, fun _ => ⟨rfl, Nat.le_refl _, Nat.le_refl _, by show (N3 + 1) * 4096 ≤ _; omega, by show N3 + 1 ≤ _; omega⟩⟩
  cases h6 : e82_0_6 p ⟨N3, k, N3, F⟩ with
  | true =>
   simp only [r82_0, hd, h6, Tr.ok, Tr.get]
   refine ⟨⟨(fun e => by cases e), fun _ => ⟨nn.1, nn.2.1, nn.2.2.1, nn.2.2.2, fun _ => trivial, (fun e => by cases e)⟩⟩, .inr ⟨_, rfl, ⟨k + 1, w2, hc, rfl, Nat.succ_le_succ g4, ?_⟩, ?_⟩⟩
   ·rw [hf]
    have h6 : (dpE p.R1 (e82_0_13 p ⟨N3, k, N3, F⟩) == 0) = true := h6
    rw [e13] at h6
    have : [p.F2_0 k].filter (fun a => dpE p.R1 a == 0) = [p.F2_0 k] := by rw [List.filter_cons, h6]; rfl
    rw [this, ← ls_push]
    show ls (fun j => cnd (Nat.blt j N3) (F j) (e82_0_13 p ⟨N3, k, N3, F⟩)) (N3 + 1) = _
    rw [e13]
   ·show ((p.n7:Int) - e82_0_9 p _).toNat < ((p.n7:Int) - (k:Int)).toNat
    simp only [e82_0_9, w2]
    omega
  | false =>
   simp only [r82_0, hd, h6, Tr.ok, Tr.get]
   refine ⟨⟨(fun e => by cases e), fun _ => ⟨nn.1, nn.2.1, nn.2.2.1, nn.2.2.2, (fun e => by cases e), fun _ => trivial⟩⟩, .inr ⟨_, rfl, ⟨k + 1, w2, hc, rfl, Nat.le_succ_of_le g4, ?_⟩, ?_⟩⟩
   ·rw [hf]
    have h6 : (dpE p.R1 (e82_0_13 p ⟨N3, k, N3, F⟩) == 0) = false := h6
    rw [e13] at h6
    have : [p.F2_0 k].filter (fun a => dpE p.R1 a == 0) = [] := by rw [List.filter_cons, h6]; rfl
    rw [this, List.append_nil]
   ·show ((p.n7:Int) - e82_0_9 p _).toNat < ((p.n7:Int) - (k:Int)).toNat
    simp only [e82_0_9, w2]
    omega
 ·have hd : e82_0_0 p ⟨N3, k, N3, F⟩ = true := by
   show cnd (decide ((k:Int) < p.x8)) false true = true
   rw [h8, decide_eq_false (by omega)]; rfl
  have : k = p.n7 := by omega
  subst this
  refine ⟨?_, .inl ⟨?_, rfl, g5⟩⟩
  ·simp only [r82_0, hd, Tr.ok]
   exact ⟨fun _ => trivial, (fun e => by cases e)⟩
  ·simp only [r82_0, hd, Tr.get]
   exact ⟨_, _, _, rfl⟩
def pre82 (v : V82) : Prop := TR (TS.mk v.M v.f v.c) ∧ v.c ≤ 100000 ∧ ∃ l σ, RepS (TS.mk v.M v.f v.c) l σ
theorem n82 (v : V82) (h : pre82 v) : (f82 v).ok ∧ (f82 v).get.1 = .slc 2 1 0 ((chF v.M v.c.toNat v.f).filter (fun a => dpE v.M a == 0)).length ∧ HOws (f82 v).get.2.1 [HO.cells 175 [.ptr 1 0, .int .u64 (v.f), .int .i64 (v.c)], HO.res v.M, HO.row 22 1 (((chF v.M v.c.toNat v.f).filter (fun a => dpE v.M a == 0))).length (fun j => [.int .u64 ((((chF v.M v.c.toNat v.f).filter (fun a => dpE v.M a == 0))).getD j 0)])] := by
 obtain ⟨h1, h4, l, σ, hr⟩ := h
 have hl : chF v.M v.c.toNat v.f = tA l := hr.list
 have hlen : (chF v.M v.c.toNat v.f).length ≤ 100000 := by
  have hcc : v.c = l.length := hr.c
  rw [hl]; simp only [tA, List.length_map]; omega
 obtain ⟨m1, k2, k3⟩ := l82 (p := P82_0.mk (chF v.M v.c.toNat v.f).length (chF v.M v.c.toNat v.f).length v.f v.c v.M (chF v.M v.c.toNat v.f).length (fun j => (chF v.M v.c.toNat v.f).getD j 0)) (s := ⟨0, 0, 0, colI (fun _ => []) 0⟩) ⟨rfl, hlen, rfl⟩ (fun j hj => by
  have hj : j < (chF v.M v.c.toNat v.f).length := hj
  show U64 ((chF v.M v.c.toNat v.f).getD j 0)
  have e : (chF v.M v.c.toNat v.f).getD j 0 = (chF v.M v.c.toNat v.f)[j] := by simp [List.getD, hj]
  rw [e]
  have hm := List.getElem_mem hj
  have hm2 : (chF v.M v.c.toNat v.f)[j] ∈ tA l := Eq.mp (congrArg (fun q => (chF v.M v.c.toNat v.f)[j] ∈ q) hl) hm
  obtain ⟨y, hy, e2⟩ := mem_tA.1 hm2
  rw [← e2]
  exact (hr.tells hy).2.2.2.1) ⟨rfl, rfl, rfl⟩
 have k3 : ls (f82_8 v).F3_0 (f82_8 v).n3 = (ls (fun j => (chF v.M v.c.toNat v.f).getD j 0) (chF v.M v.c.toNat v.f).length).filter (fun a => dpE v.M a == 0) := k3
 rw [ls_gd] at k3
 have hl2 : ((chF v.M v.c.toNat v.f).filter (fun a => dpE v.M a == 0)).length = (f82_8 v).n3 := by rw [← k3, ls_len]
 refine ⟨⟨⟨h1, h4⟩, m1, trivial⟩, ?_, ?_⟩
 ·simp only [f82, Tr.get, f82_5, hl2]
 ·simp only [f82, Tr.get, f82_6, f82_7]
  exact .cons (.inl rfl) (.cons (.inl rfl) (.cons (rowL k2 k3) .nil))
noncomputable def f82n (v : V82) : Tr (Fin th.R) := .need (pre82 v) (.leaf (.slc 2 1 0 ((chF v.M v.c.toNat v.f).filter (fun a => dpE v.M a == 0)).length, [.cells 175 [.ptr 1 0, .int .u64 (v.f), .int .i64 (v.c)], .res v.M, .row 22 1 (((chF v.M v.c.toNat v.f).filter (fun a => dpE v.M a == 0))).length (fun j => [.int .u64 ((((chF v.M v.c.toNat v.f).filter (fun a => dpE v.M a == 0))).getD j 0)])], [0, 1]))
theorem s82n : Sound Try.prog th 82 (fnC d82 ofV82 f82n) := fnC_refine s82 fun v h => by
 obtain ⟨hp, _⟩ := h
 obtain ⟨a, b, c⟩ := n82 v hp
 exact ⟨a, b.symm, (qdd82 v).symm, c, by show 2 ≤ 3; decide⟩
noncomputable def nice82n : List (Nat × CF th.R) := (82, lift (fnC d82 ofV82 f82n)) :: nice83n
theorem nok82n : NiceOk Try.prog th nice82n := ⟨lift_sound s82n, nok83n⟩
end Go.Sx.M

