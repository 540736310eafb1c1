/- Contracts of the functions of this seat, each by the executor and the kernel; part 5. Their conditions stand in each. -/
import Derived.Test.YtoldganbhlgboaaC4
set_option linter.unusedVariables false
set_option linter.unusedSimpArgs false
set_option linter.unnecessarySimpa false
namespace Go.Sx.M
open Go Go.Sx Go.Proofs Go.RowKit
set_option maxRecDepth 100000
structure S36_0 where
  x26 : Int
  R2 : th.R
  n6_1 : Nat
  xh4_1 : Int
  xh4_2 : Int
  N5 : Nat
  F5_0 : Nat → Int
  F5_1 : Nat → Int
  F5_2 : Nat → Int
  F5_3 : Nat → Int
  F5_4 : Nat → Int
  F5_5 : Nat → Int
  F5_6 : Nat → Int
  F5_7 : Nat → Int
  F5_8 : Nat → Int
noncomputable instance : Inhabited S36_0 := ⟨⟨0, dR, 0, 0, 0, 0, fun _ => 0, fun _ => 0, fun _ => 0, fun _ => 0, fun _ => 0, fun _ => 0, fun _ => 0, fun _ => 0, fun _ => 0⟩⟩
set_option maxRecDepth 100000
set_option maxRecDepth 100000
set_option maxRecDepth 100000
set_option maxRecDepth 100000
set_option maxRecDepth 100000
set_option maxRecDepth 100000
structure S112_0 where
  xh0_2 : Int
  xh0_3 : Int
  xh3_0 : Int
  xh3_1 : Int
  xh3_2 : Int
  xh3_3 : Int
noncomputable instance : Inhabited S112_0 := ⟨⟨0, 0, 0, 0, 0, 0⟩⟩
set_option maxRecDepth 100000
set_option maxRecDepth 100000
set_option maxRecDepth 100000
set_option maxRecDepth 100000
set_option maxRecDepth 100000
set_option maxRecDepth 100000
set_option maxRecDepth 100000
set_option maxRecDepth 100000
set_option maxRecDepth 100000
set_option maxRecDepth 100000
set_option maxRecDepth 100000
set_option maxRecDepth 100000
set_option maxRecDepth 100000
set_option maxRecDepth 100000
set_option maxRecDepth 100000
set_option maxRecDepth 100000
set_option maxRecDepth 100000
set_option maxRecDepth 100000
set_option maxRecDepth 100000
set_option maxRecDepth 100000
def StD : Int → List Int → Prop
  | _, [] => True
  | b, x :: l => x ≤ b ∧ StD (x + 1) l
def lsD : Int → List Int → Int
  | b, [] => b
  | _, x :: l => lsD (x + 1) l
theorem StD.mono {b c : Int} (hbc : b ≤ c) : ∀ {l : List Int}, StD b l → StD c l
  | [], _ => trivial
  | _ :: _, h => ⟨Int.le_trans h.1 hbc, h.2⟩
theorem StD_app : ∀ {l1 l2 : List Int} {b : Int}, StD b (l1 ++ l2) ↔ StD b l1 ∧ StD (lsD b l1) l2
  | [], l2, b => ⟨fun h => ⟨trivial, h⟩, fun h => h.2⟩
  | x :: l1, l2, b => by
    show (x ≤ b ∧ StD (x + 1) (l1 ++ l2)) ↔ (x ≤ b ∧ StD (x + 1) l1) ∧ StD (lsD (x + 1) l1) l2
    rw [StD_app]
    exact ⟨fun h => ⟨⟨h.1, h.2.1⟩, h.2.2⟩, fun h => ⟨h.1.1, h.1.2, h.2⟩⟩
theorem StD_shift {l3 : List Int} {c : Int} (h3 : ∀ y r, l3 = y :: r → y ≤ c) : ∀ {lb : List Int} {b : Int}, c ≤ b → StD (b + 1) (lb ++ l3) → (∀ y, y ∈ lb → y > c) → StD b (lb.map (fun x => x - 1) ++ l3)
  | [], b, hb, h, _ => by
    cases l3 with
    | nil => trivial
    | cons y r => exact ⟨Int.le_trans (h3 y r rfl) hb, h.2⟩
  | x :: lb, b, hb, h, hd => by
    obtain ⟨h1, h2⟩ := h
    refine ⟨by show x - 1 ≤ b; omega, ?_⟩
    have := StD_shift h3 (lb := lb) (b := x) (by have := hd x List.mem_cons_self; omega) h2 fun y hy => hd y (List.mem_cons_of_mem _ hy)
    show StD (x - 1 + 1) (lb.map (fun x => x - 1) ++ l3)
    rw [show x - 1 + 1 = x by omega]
    exact this
def dps (l : List Nd) : List Int := l.map Nd.d
def Stp (l : List Nd) : Prop := StD 0 (dps l)
theorem dps_set {l : List Nd} {i : Nat} {y : Nd} (hy : y.d = (gN l i).d) : dps (l.set i y) = dps l := by
  unfold dps
  apply List.ext_getElem?
  intro j
  rw [List.getElem?_map, List.getElem?_map, List.getElem?_set]
  by_cases e : i = j
  · subst e
    by_cases hi : i < l.length
    · simp [hi, hy, gN, List.getD]
    · simp [hi]
  · simp [e]
theorem dps_swp (l : List Nd) (i k:Nat) (a b:Int) : dps (swpN l i k a b) = dps l := by
  unfold swpN
  cases Nat.beq i k <;> simp only [cnd_t, cnd_f]
  · exact (dps_set (by rfl)).trans (dps_set (by rfl))
  · exact (dps_set (by rfl)).trans ((dps_set (by rfl)).trans (dps_set (by rfl)))
theorem Stp.rt {z : Int} {l : List Nd} {x : Nd} (hx : x.d = 0) (h : Stp l) : Stp (rtL z l x) := by
  unfold rtL
  cases (ftT z l x != 0) <;> simp only [cnd_t, cnd_f]
  · show StD 0 (x.d :: dps l)
    rw [hx]
    exact ⟨Int.le_refl _, StD.mono (by decide) h⟩
  · exact h
theorem Stp.se {z : Int} {l : List Nd} {x : Nd} (h : Stp l) : Stp (seL z l x) := by
  unfold seL
  cases (hdT z l x.t != 0) <;> simp only [cnd_t, cnd_f]
  · cases badC x <;> simp only [cnd_t, cnd_f]
    · unfold Stp; rw [dps_set (by rfl)]; exact h
    · exact h
  · exact h
theorem Stp.mv {z : Int} {l : List Nd} {a b : Int} (h : Stp l) : Stp (mvL z l a b) := by
  unfold mvL
  cases (hdT z l a != 0) <;> simp only [cnd_t, cnd_f]
  · cases (frT z l b != 0) <;> simp only [cnd_t, cnd_f]
    · unfold Stp; rw [dps_set (by rfl)]; exact h
    · exact h
  · exact h
theorem Stp.sw {z : Int} {l : List Nd} {a b : Int} (h : Stp l) : Stp (swL z l a b) := by
  unfold swL
  cases (hdT z l a != 0) <;> simp only [cnd_t, cnd_f]
  · cases (hdT z l b != 0) <;> simp only [cnd_t, cnd_f]
    · unfold Stp; rw [dps_swp]; exact h
    · exact h
  · exact h
theorem putN_mid (l1 l2 : List Nd) (g c : Nd) : putN (l1 ++ g :: l2) (l1.length + 1) c = l1 ++ g :: c :: l2 := by
  unfold putN
  have e1 : (l1 ++ g :: l2).take (l1.length + 1) = l1 ++ [g] := by
    rw [show l1 ++ g :: l2 = (l1 ++ [g]) ++ l2 by simp]
    exact List.take_left' (by simp)
  have e2 : (l1 ++ g :: l2).drop (l1.length + 1) = l2 := by
    rw [show l1 ++ g :: l2 = (l1 ++ [g]) ++ l2 by simp]
    exact List.drop_left' (by simp)
  rw [e1, e2]; simp
theorem dps_app (l1 l2 : List Nd) : dps (l1 ++ l2) = dps l1 ++ dps l2 := List.map_append
theorem Stp.mid {l1 l2 : List Nd} {g c : Nd} (hc : c.d = g.d + 1) (h : Stp (l1 ++ g :: l2)) : Stp (l1 ++ g :: c :: l2) := by
  unfold Stp at *
  rw [dps_app, StD_app] at *
  obtain ⟨h1, h2, h3⟩ := h
  refine ⟨h1, h2, ?_, ?_⟩
  · show c.d ≤ g.d + 1; omega
  · exact StD.mono (by show g.d + 1 ≤ c.d + 1; omega) h3
theorem Stp.ch {t : TS} {l : List Nd} {σ : Int → Sl} (hr : RepS t l σ) {p : Int} (hu : U64 p) {x : Nd} (h : Stp l) : Stp (chL t.M.size l p x) := by
  by_cases hz : hdT t.M.size l p = 0
  · obtain ⟨l1, l2, g, rfl, ht, hf, ha, hld, hs, hok⟩ := hr.at_ hu hz
    have okg := hr.ok g (by simp)
    unfold chL
    rw [hz]
    cases (ftT t.M.size (l1 ++ g :: l2) x != 0)
    · rw [ha]
      by_cases hd : g.d ≥ 4096
      · rw [decide_eq_true hd]; exact h
      · rw [decide_eq_false hd, hf]
        have h1 := okg.d0
        have hw : IntKind.i64.wrap (g.d + 1) = g.d + 1 := by rw [wi (by omega) (by omega)]
        have e : (l1.length:Int).toNat = l1.length := by simp
        rw [hw, e]
        show Stp (putN (l1 ++ g :: l2) (l1.length + 1) { x with d := g.d + 1 })
        rw [putN_mid]
        exact Stp.mid rfl h
    · exact h
  · unfold chL
    rw [bne_iff_ne.2 hz]
    exact h
theorem dw_head {α : Type} {p : α → Bool} : ∀ {l : List α} {y : α} {r : List α}, l.dropWhile p = y :: r → p y = false
  | [], _, _, h => by cases h
  | x :: l, y, r, h => by
    rw [List.dropWhile_cons] at h
    cases hp : p x with
    | true => rw [hp] at h; exact dw_head h
    | false => rw [hp] at h; cases h; exact hp
theorem rmL_form {t : TS} {l : List Nd} {σ : Int → Sl} (h : RepS t l σ) {a : Int} (hua : U64 a) (hz : hdT t.M.size l a = 0) :
    ∃ l1 g lb l3, l = l1 ++ g :: (lb ++ l3) ∧ g.t = a ∧ (∀ y, y ∈ lb → y.d > g.d) ∧ (∀ y r, l3 = y :: r → y.d ≤ g.d) ∧ bwL l a = tA lb ∧ rmL t.M.size l a = l1 ++ (lb.map dN ++ l3) ∧ lb ++ l3 = l.drop (l1.length + 1) := by
  obtain ⟨l1, l2, g, rfl, ht, hf, ha, hld, hs, hok⟩ := h.at_ hua hz
  have hbw : bwL (l1 ++ g :: l2) a = tA (l2.takeWhile (fun x => decide (x.d > g.d))) := by
    unfold bwL
    rw [hf, ha, if_neg (by omega)]
    unfold bwT
    have : (l1 ++ g :: l2).drop ((l1.length:Int).toNat + 1) = l2 := by simp
    rw [this]
    rfl
  have hdr : l2 = (l1 ++ g :: l2).drop (l1.length + 1) := by simp
  obtain ⟨lb, l3, hlb, hsp, hdeep, h3⟩ : ∃ lb l3, lb = l2.takeWhile (fun x => decide (x.d > g.d)) ∧ l2 = lb ++ l3 ∧ (∀ y, y ∈ lb → y.d > g.d) ∧ ∀ y r, l3 = y :: r → y.d ≤ g.d := by
    refine ⟨_, l2.dropWhile (fun x => decide (x.d > g.d)), rfl, List.takeWhile_append_dropWhile.symm, fun y hy => ?_, fun y r hy => ?_⟩
    · have := mem_tw hy
      simpa using this
    · have := dw_head hy
      simpa using this
  refine ⟨l1, g, lb, l3, by rw [← hsp], ht, hdeep, h3, by rw [hbw, ← hlb], ?_, by rw [← hsp]; exact hdr⟩
  unfold rmL
  rw [hz, hbw, ← hlb]
  have hlen : (l1.length:Int).toNat = l1.length := by simp
  show rmG (fnd (l1 ++ g :: l2) a).toNat (tA lb).length 0 (l1 ++ g :: l2) = l1 ++ (lb.map dN ++ l3)
  rw [hf, hlen, rmG_A l1 0 (by omega), hsp]
  congr 1
  rw [rmG_B lb (l1.length + 1) (by omega) (by simp [tA]; omega)]
  congr 1
  apply List.map_congr_left
  intro y hy
  have h1 := hdeep y hy
  have h2 := (h.ok y (by rw [hsp]; simp [hy])).d1
  have h0 := (h.ok g (by simp)).d0
  unfold dW dN
  rw [wi (by omega) (by omega)]
theorem Stp.rm {t : TS} {l : List Nd} {σ : Int → Sl} (hr : RepS t l σ) {a : Int} (hua : U64 a) (h : Stp l) : Stp (rmL t.M.size l a) := by
  by_cases hz : hdT t.M.size l a = 0
  · obtain ⟨l1, g, lb, l3, rfl, ht, hd, h3, hb, hm, _⟩ := rmL_form hr hua hz
    rw [hm]
    unfold Stp at *
    rw [dps_app, StD_app] at *
    obtain ⟨k1, k2, k3⟩ := h
    refine ⟨k1, StD.mono k2 ?_⟩
    have k3 : StD (g.d + 1) (dps (lb ++ l3)) := k3
    rw [dps_app] at *
    have e : dps (lb.map dN) = (dps lb).map (fun x => x - 1) := by
      unfold dps
      rw [List.map_map, List.map_map]
      rfl
    rw [e]
    refine StD_shift (c := g.d) (fun y r hy => ?_) (Int.le_refl _) k3 fun y hy => ?_
    · cases l3 with
      | nil => cases hy
      | cons z q => cases hy; exact h3 z q rfl
    · obtain ⟨z, hz1, rfl⟩ := List.mem_map.1 hy
      exact hd z hz1
  · unfold rmL
    rw [bne_iff_ne.2 hz]
    exact h
theorem Stp.step {t : TS} {l : List Nd} {σ : Int → Sl} (hr : RepS t l σ) {o : Op} (ho : o.R) (h : Stp l) : Stp (mdL t.M.size l o) := by
  unfold mdL
  split
  · exact Stp.rt rfl h
  · split
    · exact Stp.ch hr ho.1 h
    · split
      · exact Stp.se h
      · split
        · exact Stp.mv h
        · split
          · exact Stp.sw h
          · split
            · exact Stp.rm hr ho.1 h
            · exact h
set_option maxRecDepth 100000
/-! ### A tree in a memory one slot of which is not its own -/
def Zr (h:Int) (M : Mem) : Prop := ∀ i, i / 32 = h → M.W i = 0
theorem w8 {a k : Int} (hu : U64 a) (h32 : a % 32 = 0) (k0 : 0 ≤ k) (k1 : k < 32) : IntKind.u64.wrap (a + k) = a + k ∧ (a + k) / 32 = a / 32 := by
  obtain ⟨h0, h1⟩ := hu
  exact ⟨wrap_u64_id (by omega) (by omega), by omega⟩
theorem st_bad {M : Mem} {a : Int} {z : Sl} (he : f99_0 ⟨a, M⟩ ≠ 0) : stM M a z = M := by
  have k10 : f91_10 ⟨a, z.k, z.a, z.b, z.r, z.g, z.s, z.m, z.x, z.p, z.d, M⟩ = true := by simp [f91_10, he]
  show mrgM (f91_10 _) M (mrgM (f91_11 _) M _) = M
  rw [k10]; rfl
theorem st_good {M : Mem} {a : Int} {z : Sl} (he : f99_0 ⟨a, M⟩ = 0) :
    stM M a z = mrgM (!rightS z) M (wrM (wrM (wrM (wrM M (IntKind.u64.wrap (a + 0)) (wd0 z)) (IntKind.u64.wrap (a + 8)) (wd1 z)) (IntKind.u64.wrap (a + 16)) (wd2 z)) (IntKind.u64.wrap (a + 24)) (wd3 z)) := by
  have k10 : f91_10 ⟨a, z.k, z.a, z.b, z.r, z.g, z.s, z.m, z.x, z.p, z.d, M⟩ = false := by simp [f91_10, he]
  show mrgM (f91_10 _) M (mrgM (f91_11 _) M _) = _
  rw [k10]; rfl
theorem raw0 : (rawS 0 0 0 0).k = 0 := by decide +kernel
theorem RepS.off {h : Int} {t : TS} {l : List Nd} {σ : Int → Sl} (hr : RepS t l σ) (h0 : Zr h t.M) {x : Int} (hx : x ∈ tA l) : U64 x ∧ x / 32 ≠ h := by
  obtain ⟨y, hy, rfl⟩ := mem_tA.1 hx
  obtain ⟨l1, l2, rfl⟩ := List.append_of_mem hy
  obtain ⟨e1, e2, e3⟩ := hr.mem
  refine ⟨e3, fun e => ?_⟩
  have hs := (hr.ok y (by simp)).at_
  have he : f99_0 ⟨y.t, t.M⟩ = 0 := by rw [errS_eq e3]; exact errS_mk hs.2.1 hs.2.2
  have hw : ∀ k, 0 ≤ k → k < 32 → t.M.W (IntKind.u64.wrap (y.t + k)) = 0 := fun k k0 k1 => by
    obtain ⟨p1, p2⟩ := w8 e3 hs.2.1 k0 k1
    exact h0 _ (by rw [p1, p2]; exact e)
  obtain ⟨p1, p2⟩ := ld_raw (M := t.M) he (hw 0 (by omega) (by omega)) (hw 8 (by omega) (by omega)) (hw 16 (by omega) (by omega)) (hw 24 (by omega) (by omega))
  have hk : (Go.Sx.M.ld t.M y.t).k = 0 := by
    by_cases ho : okW 0 0 0 0
    · rw [(p1 ho).1]; exact raw0
    · rw [(p2 ho).1]; rfl
  have e2 : Go.Sx.M.ld t.M y.t = sN y (hdA l2 0) (lsA l1 0) := e2
  rw [e2] at hk
  exact (hr.ok y (by simp)).k hk
set_option maxRecDepth 100000
theorem filter_le_one {f g : Nat → Bool} {c n : Nat} (h : ∀ i, i ≠ c → g i = f i) : ((List.range n).filter g).length ≤ ((List.range n).filter f).length + 1 := by
  by_cases hc : c < n
  · cases hf : f c with
    | false =>
      cases hg : g c with
      | false =>
        have : (List.range n).filter g = (List.range n).filter f := List.filter_congr fun i _ => by
          by_cases e : i = c
          · rw [e, hf, hg]
          · exact h i e
        rw [this]; omega
      | true =>
        have := (filter_one hc h hf hg).length_eq
        rw [this, List.length_append]
        exact Nat.le_refl _
    | true =>
      cases hg : g c with
      | false =>
        have := (filter_one hc (fun i hi => (h i hi).symm) hg hf).length_eq
        rw [List.length_append] at this
        omega
      | true =>
        have : (List.range n).filter g = (List.range n).filter f := List.filter_congr fun i _ => by
          by_cases e : i = c
          · rw [e, hf, hg]
          · exact h i e
        rw [this]; omega
  · have : (List.range n).filter g = (List.range n).filter f := List.filter_congr fun i hi => h i (by have := List.mem_range.1 hi; omega)
    rw [this]; omega
theorem cntW_congr {W V : Int → Int} {p : Int} (h : ∀ a, a / 4096 = p → W a = V a) : cntW W p = cntW V p := by
  unfold cntW
  congr 1
  apply List.filter_congr
  intro i hi
  have hi := List.mem_range.1 hi
  rw [h _ (by omega)]
theorem pgs_wr (M : Mem) (a x:Int) : (pgs (wrM M a x)).length ≤ (pgs M).length + 1 := by
  unfold pgs pgN
  rw [List.length_map, List.length_map]
  refine filter_le_one (c := (a / 4096).toNat) fun i hi => ?_
  have : cntW (wrM M a x).W (i:Nat) = cntW M.W (i:Nat) := cntW_congr fun q hq => by
    show (cnd (decide (errI M.size a = 0)) (upd M.W a x) M.W) q = M.W q
    cases decide (errI M.size a = 0)
    · rfl
    · exact upd_other (by omega)
  rw [this]
theorem pgs_new (n:Int) : pgs (newM n) = [] := by
  unfold pgs pgN
  rw [filter_none fun i _ => ?_]
  · rfl
  · have e : cntW (newM n).W (i:Nat) = 0 := cntW_zero fun a _ => rfl
    rw [e]; rfl
theorem same_refl (M : Mem) : sameM M M = true := by
  unfold sameM
  have e1 : (M.size != M.size) = false := bne_self_eq_false _
  have e2 : decide (pgs M = pgs M) = true := decide_eq_true rfl
  rw [e1, e2]
  show ((pgs M).all fun a => allK (wof M.W (a / 4096)) (wof M.W (a / 4096)) 512 0) = true
  exact List.all_eq_true.2 fun a _ => allK_iff.2 fun _ _ _ => rfl
theorem f30_err {a : Int} (h : U64 a) : f30_1 a = errS 65536 a := by
  unfold f30_1 errS
  rw [Int.tmod_eq_emod_of_nonneg h.1]
  by_cases h1 : a % 32 = 0
  · rw [if_pos h1, h1]
    by_cases h2 : (65536:Int) ≤ a
    · rw [if_pos h2, decide_eq_true (show a ≥ 65536 from h2)]; rfl
    · rw [if_neg h2, decide_eq_false (show ¬ a ≥ 65536 from h2)]; rfl
  · rw [if_neg h1, bne_iff_ne.2 h1]; rfl
theorem st_tells {M : Mem} {a : Int} {z : Sl} (hu : U64 a) (he : errS M.size a = 0) (hs : M.size = 65536) (hz : SlR z) (hr : rightS z = true) :
    ld (stM M a z) a = z ∧ ldE (stM M a z) a = 0 ∧ (∀ i, i ≠ a → i ≠ a + 8 → i ≠ a + 16 → i ≠ a + 24 → (stM M a z).W i = M.W i)
    ∧ (stM M a z).W a = wd0 z ∧ (stM M a z).W (a + 8) = wd1 z ∧ (stM M a z).W (a + 16) = wd2 z ∧ (stM M a z).W (a + 24) = wd3 z := by
  obtain ⟨h32, hlt⟩ := errS_ok he
  have h0 := hu.1
  have e99 : f99_0 ⟨a, M⟩ = 0 := by rw [errS_eq hu]; exact he
  have e1 : stM M a z = wrM (wrM (wrM (wrM M (IntKind.u64.wrap (a + 0)) (wd0 z)) (IntKind.u64.wrap (a + 8)) (wd1 z)) (IntKind.u64.wrap (a + 16)) (wd2 z)) (IntKind.u64.wrap (a + 24)) (wd3 z) := by
    rw [st_good e99, hr]; rfl
  obtain ⟨f0, f8, f16, f24, fo⟩ := four (M := M) (a := a) (w0 := wd0 z) (w1 := wd1 z) (w2 := wd2 z) (w3 := wd3 z) h0 h32 hlt (by rw [hs]; rfl) (by rw [hs]; decide)
  rw [← e1] at f0 f8 f16 f24 fo
  have hsz : (stM M a z).size = M.size := st_size _ _ _
  have e99' : f99_0 ⟨a, stM M a z⟩ = 0 := by rw [errS_eq hu, hsz]; exact he
  have w0 : IntKind.u64.wrap (a + 0) = a := by rw [wrap_u64_id (by omega) (by omega)]; omega
  have w8 : IntKind.u64.wrap (a + 8) = a + 8 := wrap_u64_id (by omega) (by omega)
  have w16 : IntKind.u64.wrap (a + 16) = a + 16 := wrap_u64_id (by omega) (by omega)
  have w24 : IntKind.u64.wrap (a + 24) = a + 24 := wrap_u64_id (by omega) (by omega)
  obtain ⟨g1, g2⟩ := (ld_raw e99' (by rw [w0]; exact f0) (by rw [w8]; exact f8) (by rw [w16]; exact f16) (by rw [w24]; exact f24)).1 (okW_wd hz hr)
  rw [raw_wd hz hr] at g1
  exact ⟨g1, g2, fo, f0, f8, f16, f24⟩
set_option maxRecDepth 100000
set_option maxRecDepth 100000
theorem right12 {z : Sl} (hz : SlR z) : f92_2 z.k z.a z.b z.r z.g z.s z.m z.x z.p z.d = rightS z := by
  have hR := right_eq (k := z.k) (r := z.r) (s := z.s) hz.a.1 hz.a.2 hz.b hz.m.1 hz.m.2 hz.g.2
  have tx : z.x.tmod 32 = z.x % 32 := Int.tmod_eq_emod_of_nonneg hz.x.1
  have tp : z.p.tmod 32 = z.p % 32 := Int.tmod_eq_emod_of_nonneg hz.p.1
  rw [Bool.eq_iff_iff, rightS_iff hz]
  have ca : ∀ (u v : Bool), cnd u v false = (u && v) := fun u v => by cases u <;> rfl
  simp only [f92_2, tx, tp, ← hR, rgt, ca, Bool.and_eq_true, decide_eq_true_eq, beq_iff_eq]
  exact ⟨fun ⟨⟨⟨⟨⟨⟨a, b⟩, c⟩, d⟩, e⟩, f⟩, g⟩ => ⟨a, ⟨b, c⟩, ⟨d, e⟩, f, g⟩, fun ⟨a, ⟨b, c⟩, ⟨d, e⟩, f, g⟩ => ⟨⟨⟨⟨⟨⟨a, b⟩, c⟩, d⟩, e⟩, f⟩, g⟩⟩
theorem words12 {z : Sl} (hz : SlR z) (hr : rightS z = true) :
    f93_1 z.k z.a z.b z.r z.g z.s z.m z.x z.p z.d = wd0 z ∧ wd1 z = z.m ∧ f93_2 z.k z.a z.b z.r z.g z.s z.m z.x z.p z.d = wd2 z ∧ f93_3 z.k z.a z.b z.r z.g z.s z.m z.x z.p z.d = wd3 z := by
  obtain ⟨r1, r2, r3, r4, r5⟩ := (rightS_iff hz).1 hr
  have hr2 := rgt2 hz r1
  obtain ⟨v1, v2⟩ := word_right hz.a.1 hz.a.2 hr2 r1
  refine ⟨?_, wd1_eq r1, ?_, rfl⟩
  · show f160_2 z.k z.a z.b z.r z.g z.s z.m = f164_14 z.k z.a z.b z.r z.g z.s z.m
    rw [v1, v2]
  · rw [wd2_eq hz r2.1 r3.1]
    have x0 := hz.x.1
    have p0 := hz.p.1
    have y1 : z.x.tdiv 32 = z.x / 32 := Int.tdiv_eq_ediv_of_nonneg x0
    have y2 : z.p.tdiv 32 = z.p / 32 := Int.tdiv_eq_ediv_of_nonneg p0
    simp only [f93_2, y1, y2]
    rw [wrap_u64_id (x := z.x / 32) (by omega) (by omega), wrap_u64_id (x := z.p / 32) (by omega) (by omega), wrap_u64_id (x := z.p / 32 * 4294967296) (by omega) (by omega), wrap_u64_id (by omega) (by omega)]
theorem pgs28 (w : V28) : (pgs (f28_12 w)).length ≤ 4 := by
  have q0 : (pgs (newM 65536)).length = 0 := by rw [pgs_new]; rfl
  have q1 := pgs_wr (newM 65536) (f28_13 w) (f28_14 w)
  have q2 := pgs_wr (wrM (newM 65536) (f28_13 w) (f28_14 w)) (f28_15 w) (f28_16 w)
  have q3 := pgs_wr (wrM (wrM (newM 65536) (f28_13 w) (f28_14 w)) (f28_15 w) (f28_16 w)) (f28_17 w) (f28_18 w)
  have q4 := pgs_wr (wrM (wrM (wrM (newM 65536) (f28_13 w) (f28_14 w)) (f28_15 w) (f28_16 w)) (f28_17 w) (f28_18 w)) (f28_19 w) (f28_20 w)
  unfold f28_12
  omega
theorem law21_true (v : V21) (ha : U64 v.at_) (hz : SlR ⟨v.k, v.a, v.b, v.r, v.g, v.s, v.m, v.x, v.p, v.d⟩) (h0 : U64 v.w0) (h1 : U64 v.w1) (h2 : U64 v.w2) (h3 : U64 v.w3) : (f21 v).ok ∧ f21_14 v = true := by
  have p28 : pre28 (V28.mk v.at_ v.w0 v.w1 v.w2 v.w3) := ⟨ha, h0, h1, h2, h3⟩
  have hpg : (pgs (f28_12 ⟨v.at_, v.w0, v.w1, v.w2, v.w3⟩)).length ≤ 12 := Nat.le_trans (pgs28 _) (by omega)
  have hsz : (f28_12 ⟨v.at_, v.w0, v.w1, v.w2, v.w3⟩).size = 65536 := rfl
  obtain ⟨M, hM⟩ : ∃ M, M = f28_12 ⟨v.at_, v.w0, v.w1, v.w2, v.w3⟩ := ⟨_, rfl⟩
  obtain ⟨z, hzz⟩ : ∃ z : Sl, z = ⟨v.k, v.a, v.b, v.r, v.g, v.s, v.m, v.x, v.p, v.d⟩ := ⟨_, rfl⟩
  have e17 : f21_17 v = z := by rw [hzz]; rfl
  have e18 : f21_18 v = stM M v.at_ z := by unfold f21_18; rw [e17, hM]
  have p91 : pre91 (f21_15 v) := by
    exact ⟨ha, hz⟩
  have e99 : f99_0 ⟨v.at_, M⟩ = errS 65536 v.at_ := by rw [errS_eq ha, hM, hsz]
  have e16 : f21_16 v = (errS 65536 v.at_ != 0) := by unfold f21_16; rw [f30_err ha]
  have e19 : f21_19 v = !rightS z := by unfold f21_19; rw [← right12 (z := z) (by rw [hzz]; exact hz), hzz]
  have e29 : f21_29 v = rightS z := by rw [hzz]; rfl
  have e28 : stM M v.at_ z = M → f21_28 v = true := fun h => by unfold f21_28; rw [e18, ← hM, h]; exact same_refl _
  have p79 : stM M v.at_ z = M → pre79 (V79.mk (f21_18 v) (f28_12 ⟨v.at_, v.w0, v.w1, v.w2, v.w3⟩)) := fun h => ⟨by show (pgs (f21_18 v)).length ≤ 12; rw [e18, h, hM]; exact hpg, hpg⟩
  have hM' : (f28_12 ⟨v.at_, v.w0, v.w1, v.w2, v.w3⟩) = M := hM.symm
  by_cases he : errS 65536 v.at_ = 0
  · have h16 : f21_16 v = false := by rw [e16, he]; rfl
    cases hr : rightS z with
    | false =>
      have h19 : f21_19 v = true := by rw [e19, hr]; rfl
      have hst : stE M v.at_ z = 10 := by rw [stE_any, e99, he, hr]; rfl
      have hmm : stM M v.at_ z = M := by rw [st_good (by rw [e99, he]), hr]; rfl
      have n1 : ∀ {p : Prop}, f21_19 v = false → p := fun e => by rw [h19] at e; cases e
      refine ⟨⟨trivial, fun _ => p28, fun _ _ => p91, fun _ _ _ _ => p79 hmm, fun _ _ _ _ _ => p79 hmm, fun _ _ _ e => n1 e, fun _ _ _ e => n1 e, fun _ _ _ e => n1 e, fun _ _ _ e => n1 e, fun _ _ _ e => n1 e, trivial⟩, ?_⟩
      unfold f21_14
      rw [h16, h19, e17, hM', hst, e28 hmm, e29, hr]
      rfl
    | true =>
      have h19 : f21_19 v = false := by rw [e19, hr]; rfl
      have hR : SlR z := by rw [hzz]; exact hz
      obtain ⟨t1, t2, t3, t4, t5, t6, t7⟩ := st_tells (M := M) ha (by rw [hM, hsz]; exact he) (by rw [hM, hsz]) hR hr
      have hst : stE M v.at_ z = 0 := by rw [stE_any, e99, he, hr]; rfl
      obtain ⟨h32, hlt⟩ := errS_ok he
      have a0 := ha.1
      have w0 : f21_20 v = v.at_ := by unfold f21_20; rw [wrap_u64_id (by omega) (by omega)]; omega
      have w8 : f21_22 v = v.at_ + 8 := wrap_u64_id (by omega) (by omega)
      have w16 : f21_24 v = v.at_ + 16 := wrap_u64_id (by omega) (by omega)
      have w24 : f21_26 v = v.at_ + 24 := wrap_u64_id (by omega) (by omega)
      have hs2 : szM (f21_18 v) = 65536 := by rw [e18, show szM (stM M v.at_ z) = M.size from st_size _ _ _, hM]; rfl
      obtain ⟨k0, k1, k2, k3⟩ := words12 hR hr
      have ei : ∀ i, 0 ≤ i → i % 8 = 0 → i < 65536 → errI 65536 i = 0 := fun i q1 q2 q3 => errI_ok q2 q3
      have r0 : rdM (f21_18 v) v.at_ = f93_1 v.k v.a v.b v.r v.g v.s v.m v.x v.p v.d := by
        rw [e18, show rdM (stM M v.at_ z) v.at_ = (stM M v.at_ z).W v.at_ from rfl, t4, ← k0, hzz]
      have r1 : rdM (f21_18 v) (v.at_ + 8) = v.m := by
        rw [e18, show rdM (stM M v.at_ z) (v.at_ + 8) = (stM M v.at_ z).W (v.at_ + 8) from rfl, t5, k1, hzz]
      have r2 : rdM (f21_18 v) (v.at_ + 16) = f93_2 v.k v.a v.b v.r v.g v.s v.m v.x v.p v.d := by
        rw [e18, show rdM (stM M v.at_ z) (v.at_ + 16) = (stM M v.at_ z).W (v.at_ + 16) from rfl, t6, ← k2, hzz]
      have r3 : rdM (f21_18 v) (v.at_ + 24) = f93_3 v.k v.a v.b v.r v.g v.s v.m v.x v.p v.d := by
        rw [e18, show rdM (stM M v.at_ z) (v.at_ + 24) = (stM M v.at_ z).W (v.at_ + 24) from rfl, t7, ← k3, hzz]
      have c1 : f21_21 v = false := by
        unfold f21_21; rw [hs2, w0, ei _ (by omega) (by omega) (by omega), r0]
        exact bne_self_eq_false _
      have c2 : f21_23 v = false := by
        unfold f21_23; rw [hs2, w8, ei _ (by omega) (by omega) (by omega), r1]
        exact bne_self_eq_false _
      have c3 : f21_25 v = false := by
        unfold f21_25; rw [hs2, w16, ei _ (by omega) (by omega) (by omega), r2]
        exact bne_self_eq_false _
      have c4 : f21_27 v = false := by
        unfold f21_27; rw [hs2, w24, ei _ (by omega) (by omega) (by omega), r3]
        exact bne_self_eq_false _
      have e30 : f21_30 v = z := by unfold f21_30; rw [e18]; exact t1
      refine ⟨⟨trivial, fun _ => p28, fun _ _ => p91, (fun _ _ e => by rw [h16] at e; cases e), (fun _ _ _ e => by rw [h19] at e; cases e), fun _ _ _ _ => wrapR _, fun _ _ _ _ _ => wrapR _, fun _ _ _ _ _ _ => wrapR _, fun _ _ _ _ _ _ _ => wrapR _, fun _ _ _ _ _ _ _ _ => ha, trivial⟩, ?_⟩
      unfold f21_14
      have h31 : f31_0 v.k v.a v.b v.r v.g v.s v.m v.x v.p v.d = (v.k == (0:Int) && (v.a == (0:Int) && (v.b == (0:Int) && (v.r == (0:Int) && (v.g == (0:Int) && (v.s == (0:Int) && (v.m == (0:Int) && Bool.true)))))) && (v.x == (0:Int) && (v.p == (0:Int) && (v.d == (0:Int) && Bool.true)))) := rfl
      rw [← h31, h16, h19, c1, c2, c3, c4, e17, hM', hst, e29, hr, e30, e18, t2, hzz]
      simp [cnd]
  · have h16 : f21_16 v = true := by rw [e16]; exact bne_iff_ne.2 he
    have hst : stE M v.at_ z = errS 65536 v.at_ := by rw [stE_any, e99, bne_iff_ne.2 he]; rfl
    have hmm : stM M v.at_ z = M := st_bad (by rw [e99]; exact he)
    have n1 : ∀ {p : Prop}, f21_16 v = false → p := fun e => by rw [h16] at e; cases e
    refine ⟨⟨trivial, fun _ => p28, fun _ _ => p91, fun _ _ _ _ => p79 hmm, fun _ _ e => n1 e, fun _ _ e => n1 e, fun _ _ e => n1 e, fun _ _ e => n1 e, fun _ _ e => n1 e, fun _ _ e => n1 e, trivial⟩, ?_⟩
    unfold f21_14
    rw [h16, e17, hM', hst, e28 hmm, f30_err ha]
    simp [cnd]
set_option maxRecDepth 100000
def pre21 (v : V21) : Prop := U64 v.at_ ∧ SlR ⟨v.k, v.a, v.b, v.r, v.g, v.s, v.m, v.x, v.p, v.d⟩ ∧ U64 v.w0 ∧ U64 v.w1 ∧ U64 v.w2 ∧ U64 v.w3
theorem n21 (v : V21) (h : pre21 v) : (f21 v).ok ∧ (f21 v).get.1 = .bool true ∧ HOws (f21 v).get.2.1 [] := by
  obtain ⟨k1, k2⟩ := law21_true v h.1 h.2.1 h.2.2.1 h.2.2.2.1 h.2.2.2.2.1 h.2.2.2.2.2
  exact ⟨k1, congrArg SV.bool k2, .refl _⟩
noncomputable def f21n (v : V21) : Tr (Fin th.R) := .need (pre21 v) (.leaf (.bool true, [], []))
theorem s21n : Sound Try.prog th 21 (fnC d21 ofV21 f21n) := fnC_refine s21 fun v h => by
  obtain ⟨hp, _⟩ := h
  obtain ⟨a, b, c⟩ := n21 v hp
  exact ⟨a, b.symm, (qdd21 v).symm, c, by show 0 ≤ 0; decide⟩
theorem claw21 (v : V21) : fnC d21 ofV21 f21n (A21 v) (H21 v) = some ((f21n v).map (fixF (H21 v))) := by kernel_rfl
end Go.Sx.M

