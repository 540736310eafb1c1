/- Contracts of the functions of this seat, each by the executor and the kernel; part 4. Their conditions stand in each. -/
import Derived.Test.YtoldganbhlgboaaC3
set_option linter.unusedVariables false
set_option linter.unusedSimpArgs false
set_option linter.unnecessarySimpa false
namespace Go.Sx.M
open Go Go.Sx Go.Proofs Go.RowKit
def bwT (l : List Nd) (d:Int) (k:Nat) : List Int := ((l.drop k).takeWhile (fun x => decide (x.d > d))).map Nd.t
def bwL (l : List Nd) (a:Int) : List Int := if fnd l a < 0 then [] else bwT l (atN l a).d ((fnd l a).toNat + 1)
def rmG (i b:Nat) : Nat → List Nd → List Nd
  | _, [] => []
  | k, x :: r => if k ≠ i then (if i < k ∧ k ≤ i + b then { x with d := IntKind.i64.wrap (x.d - 1) } else x) :: rmG i b (k + 1) r else rmG i b (k + 1) r
def rmL (z:Int) (l : List Nd) (a:Int) : List Nd := cnd (hdT z l a != 0) l (rmG (fnd l a).toNat (bwL l a).length 0 l)
theorem RepS.mem {t : TS} {k1 r : List Nd} {y : Nd} {σ : Int → Sl} (h : RepS t (k1 ++ y :: r) σ) : Go.Sx.M.hdE t.M y.t = 0 ∧ Go.Sx.M.ld t.M y.t = sN y (hdA r 0) (lsA k1 0) ∧ U64 y.t := by
  have hm : y ∈ k1 ++ y :: r := by simp
  have ok := h.ok y hm
  have hu : U64 y.t := ⟨ok.at_.1, by have := ok.at_.2.2; have := h.E.s2; omega⟩
  obtain ⟨_, q⟩ := DL_app.1 h.dl
  obtain ⟨q, _⟩ := q
  have hl : Go.Sx.M.ld t.M y.t = sN y (hdA r 0) (lsA k1 0) := (h.E.ld ok.at_).1.trans q
  refine ⟨?_, hl, hu⟩
  unfold Go.Sx.M.hdE
  rw [(h.E.ld ok.at_).2, hl]
  have : (sN y (hdA r 0) (lsA k1 0)).k = y.k := rfl
  rw [this, beq_eq_false_iff_ne.2 ok.k]
  rfl
theorem hdT_mem {t : TS} {l : List Nd} {σ : Int → Sl} (h : RepS t l σ) {y : Nd} (hm : y ∈ l) : hdT t.M.size l y.t = 0 := by
  obtain ⟨k1, r, rfl⟩ := List.append_of_mem hm
  obtain ⟨a, _, c⟩ := h.mem
  rw [← h.hdE c]
  exact a
theorem RepS.bl {t : TS} {d : Int} : ∀ {r k1 : List Nd} {σ : Int → Sl} {n : Nat}, RepS t (k1 ++ r) σ → r.length ≤ n → blF t.M d n (hdA r 0) = (r.takeWhile (fun x => decide (x.d > d))).map Nd.t
  | [], _, _, n, _, _ => by
    exact (blF_stop (a := hdA [] 0) (.inl rfl)).trans rfl
  | y :: r, k1, σ, n, h, hn => by
    obtain ⟨m, rfl⟩ : ∃ m, n = m + 1 := ⟨n - 1, by simp at hn; omega⟩
    obtain ⟨e1, e2, e3⟩ := h.mem
    have hnz : y.t ≠ 0 := (h.ok y (by simp)).nz
    have hd : (sN y (hdA r 0) (lsA k1 0)).d = y.d := rfl
    have hx : (sN y (hdA r 0) (lsA k1 0)).x = hdA r 0 := rfl
    show blF t.M d (m + 1) y.t = _
    rw [List.takeWhile_cons]
    by_cases hc : y.d > d
    · rw [blF_on hnz (by rw [e1, e2, hd]; intro e; rcases e with e | e <;> omega) rfl, e2, hx, decide_eq_true hc]
      have h' : RepS t ((k1 ++ [y]) ++ r) σ := by simpa using h
      rw [RepS.bl h' (by simp at hn; omega)]
      rfl
    · rw [blF_stop (.inr (.inr (.inr (by rw [e2, hd]; omega)))), decide_eq_false hc]
      rfl
theorem RepS.len_le {t : TS} {l : List Nd} {σ : Int → Sl} (h : RepS t l σ) : (l.length:Int) ≤ t.c := by rw [h.c]; exact Int.le_refl _
theorem mem_tw {α : Type} {p : α → Bool} : ∀ {l : List α} {x : α}, x ∈ l.takeWhile p → p x = true
  | [], _, h => by cases h
  | y :: l, x, h => by
    rw [List.takeWhile_cons] at h
    cases hp : p y with
    | true =>
      rw [hp] at h
      rcases List.mem_cons.1 h with rfl | h
      · exact hp
      · exact mem_tw h
    | false => rw [hp] at h; cases h
def dW (x : Nd) : Nd := { x with d := IntKind.i64.wrap (x.d - 1) }
theorem rmG_C {i b : Nat} : ∀ (r : List Nd) (k:Nat), i + b < k → rmG i b k r = r
  | [], _, _ => rfl
  | x :: r, k, h => by
    unfold rmG
    rw [if_pos (by omega), if_neg (by omega), rmG_C r (k + 1) (by omega)]
theorem rmG_B {i b : Nat} {r : List Nd} : ∀ (lb : List Nd) (k:Nat), i < k → k + lb.length = i + b + 1 → rmG i b k (lb ++ r) = lb.map dW ++ r
  | [], k, h1, h2 => by
    simp only [List.length_nil] at h2
    exact rmG_C r k (by omega)
  | x :: lb, k, h1, h2 => by
    simp only [List.length_cons] at h2
    show rmG i b k (x :: (lb ++ r)) = _
    unfold rmG
    rw [if_pos (by omega), if_pos (by omega), rmG_B lb (k + 1) (by omega) (by omega)]
    rfl
theorem rmG_A {i b : Nat} {g : Nd} {r : List Nd} : ∀ (l1 : List Nd) (k:Nat), k + l1.length = i → rmG i b k (l1 ++ g :: r) = l1 ++ rmG i b (i + 1) r
  | [], k, h => by
    simp only [List.length_nil, Nat.add_zero] at h
    subst h
    show rmG k b k (g :: r) = _
    rw [rmG, if_neg (by simp)]
    rfl
  | x :: l1, k, h => by
    simp only [List.length_cons] at h
    show rmG i b k (x :: (l1 ++ g :: r)) = _
    rw [rmG, if_pos (by omega), if_neg (by omega), rmG_A l1 (k + 1) (by omega)]
    rfl
theorem hdA_dN (lb l3 : List Nd) (n:Int) : hdA (lb.map dN ++ l3) n = hdA (lb ++ l3) n := by
  cases lb <;> rfl
theorem RepS.below {t : TS} {l : List Nd} {σ : Int → Sl} (h : RepS t l σ) (hl : l.length ≤ 100000) {a : Int} (hua : U64 a) : blw t.M t.c a = bwL l a := by
  unfold blw
  rw [h.hdE hua]
  by_cases hz : hdT t.M.size l a = 0
  · obtain ⟨l1, l2, g, rfl, ht, hf, ha, hld, hs, hok⟩ := h.at_ hua hz
    rw [if_neg (by simp [hz]), hld]
    have hd : (sN g (hdA l2 0) (lsA l1 0)).d = g.d := rfl
    have hx : (sN g (hdA l2 0) (lsA l1 0)).x = hdA l2 0 := rfl
    rw [hd, hx]
    have h' : RepS t ((l1 ++ [g]) ++ l2) σ := by simpa using h
    have hlen : l2.length ≤ (t.c + 1).toNat := by
      have := h.len_le
      simp only [List.length_append, List.length_cons] at this
      omega
    rw [RepS.bl h' hlen]
    unfold bwL
    rw [hf, ha, if_neg (by omega)]
    unfold bwT
    have : (l1 ++ g :: l2).drop ((l1.length:Int).toNat + 1) = l2 := by simp
    rw [this]
  · rw [if_pos hz]
    unfold bwL
    rcases h.ld hua with ⟨_, m0, _, _, ⟨i, hi, ht, hf, hm, _⟩ | ⟨_, hf, _⟩⟩ | ⟨_, _, _, _, hf, _⟩
    · have := hdT_mem h hm
      rw [ht] at this
      exact absurd this hz
    · rw [hf, if_pos (by omega)]
    · rw [hf, if_pos (by omega)]
theorem RepS.rem {t : TS} {l : List Nd} {σ : Int → Sl} (h : RepS t l σ) (hl : l.length ≤ 100000) {a : Int} (hua : U64 a) :
    rmE t a = hdT t.M.size l a ∧ (∃ τ, RepS (rmT t a) (rmL t.M.size l a) τ) ∧ (rmT t a).M.size = t.M.size := by
  have hb := h.below hl hua
  have e1 := h.hdE hua
  unfold rmE rmT rmL
  rw [e1, hb]
  refine ⟨rfl, ?_⟩
  by_cases hz : hdT t.M.size l a = 0
  · obtain ⟨l1, l2, g, rfl, ht, hf, ha, hld, hs, hok⟩ := h.at_ hua hz
    have hb1 : (hdT t.M.size (l1 ++ g :: l2) a != 0) = false := by simp [hz]
    have hd0 := (h.ok g (by simp)).d0
    simp only [hb1, mrgM_f, cnd_f]
    rw [hld]
    have hpp : (sN g (hdA l2 0) (lsA l1 0)).p = lsA l1 0 := rfl
    have hxx : (sN g (hdA l2 0) (lsA l1 0)).x = hdA l2 0 := rfl
    rw [hpp, hxx]
    -- what is below
    have hbw : bwL (l1 ++ g :: l2) a = tA (l2.takeWhile (fun x => decide (x.d > g.d))) := by
      unfold bwL
      rw [hf, ha, if_neg (by omega)]
      unfold bwT
      have : (l1 ++ g :: l2).drop ((l1.length:Int).toNat + 1) = l2 := by simp
      rw [this]
      rfl
    obtain ⟨lb, l3, hlb, hsp, hdeep⟩ : ∃ lb l3, lb = l2.takeWhile (fun x => decide (x.d > g.d)) ∧ l2 = lb ++ l3 ∧ ∀ y, y ∈ lb → y.d > g.d := by
      refine ⟨_, l2.dropWhile (fun x => decide (x.d > g.d)), rfl, List.takeWhile_append_dropWhile.symm, fun y hy => ?_⟩
      have := mem_tw hy
      simpa using this
    rw [hbw, ← hlb]
    have hh : RepS t ((l1 ++ [g]) ++ lb ++ l3) σ := by rw [hsp] at h; simpa using h
    obtain ⟨τ, R, z⟩ := RepS.decs hh fun y hy => by have := hdeep y hy; omega
    have R' : RepS ⟨(tA lb).foldl tD t.M, t.f, t.c⟩ (l1 ++ g :: (lb.map dN ++ l3)) τ := by simpa using R
    obtain ⟨τ2, R2, z2'⟩ := RepS.del R' (by rw [hsp] at hl; simpa using hl)
    rw [hdA_dN, ← hsp, ht] at R2 z2'
    have hlen : (l1.length:Int).toNat = l1.length := by simp
    have hrm : rmG (fnd (l1 ++ g :: l2) a).toNat (tA lb).length 0 (l1 ++ g :: l2) = l1 ++ (lb.map dN ++ l3) := by
      rw [hf, hlen, rmG_A l1 0 (by omega), hsp]
      congr 1
      rw [rmG_B lb (l1.length + 1) (by omega) (by simp [tA]; omega)]
      congr 1
      apply List.map_congr_left
      intro y hy
      have h1 := hdeep y hy
      have h2 := (h.ok y (by rw [hsp]; simp [hy])).d1
      unfold dW dN
      rw [wi (by omega) (by omega)]
    rw [hrm]
    exact ⟨⟨τ2, R2⟩, z2'.trans z⟩
  · have hb1 : (hdT t.M.size l a != 0) = true := by simp [hz]
    simp only [hb1, mrgM_t, cnd_t]
    exact ⟨⟨σ, h⟩, trivial⟩
structure Op where
  k : Int
  A : Int
  B : Int
  z : Sl
def Op.R (o : Op) : Prop := U64 o.A ∧ U64 o.B ∧ SlR o.z ∧ o.z.x = 0 ∧ o.z.p = 0 ∧ o.z.d = 0
def ndO (o : Op) (a:Int) : Nd := ⟨a, o.z.k, o.z.a, o.z.b, o.z.r, o.z.g, o.z.s, o.z.m, 0⟩
theorem ndO_sl {o : Op} (h : o.R) (a:Int) : slN (ndO o a) = o.z := by
  obtain ⟨_, _, _, h1, h2, h3⟩ := h
  obtain ⟨k, A, B, z⟩ := o
  cases z
  simp only at h1 h2 h3
  subst h1 h2 h3
  rfl
noncomputable def dnT (t : TS) (o : Op) : TS := if o.k = 1 then rtT t o.A o.z else if o.k = 2 then chT t o.A o.B o.z else if o.k = 3 then seT t o.A o.z else if o.k = 4 then mvT t o.A o.B else if o.k = 5 then swT t o.A o.B else if o.k = 6 then rmT t o.A else t
noncomputable def dnE (t : TS) (o : Op) : Int := if o.k = 1 then rtE t o.A o.z else if o.k = 2 then chE t o.A o.B o.z else if o.k = 3 then seE t o.A o.z else if o.k = 4 then mvE t o.A o.B else if o.k = 5 then swE t o.A o.B else if o.k = 6 then rmE t o.A else 0
def mdL (z:Int) (l : List Nd) (o : Op) : List Nd := if o.k = 1 then rtL z l (ndO o o.A) else if o.k = 2 then chL z l o.A (ndO o o.B) else if o.k = 3 then seL z l (ndO o o.A) else if o.k = 4 then mvL z l o.A o.B else if o.k = 5 then swL z l o.A o.B else if o.k = 6 then rmL z l o.A else l
def mdR (z:Int) (l : List Nd) (o : Op) : Int := if o.k = 1 then rtR z l (ndO o o.A) else if o.k = 2 then chR z l o.A (ndO o o.B) else if o.k = 3 then seR z l (ndO o o.A) else if o.k = 4 then mvR z l o.A o.B else if o.k = 5 then swR z l o.A o.B else if o.k = 6 then hdT z l o.A else 0
theorem RepS.step {t : TS} {l : List Nd} {σ : Int → Sl} (h : RepS t l σ) (hl : l.length ≤ 100000) {o : Op} (ho : o.R) :
    dnE t o = mdR t.M.size l o ∧ (∃ τ, RepS (dnT t o) (mdL t.M.size l o) τ) ∧ (dnT t o).M.size = t.M.size := by
  have hA := ho.1
  have hB := ho.2.1
  have hz := ho.2.2.1
  unfold dnE dnT mdR mdL
  by_cases k1 : o.k = 1
  · simp only [if_pos k1]
    have := h.root (x := ndO o o.A) hA (by rw [ndO_sl ho]; exact hz) rfl hl
    rw [ndO_sl ho] at this
    exact this
  · simp only [if_neg k1]
    by_cases k2 : o.k = 2
    · simp only [if_pos k2]
      have := h.child (p := o.A) (x := ndO o o.B) hA hB (by rw [ndO_sl ho]; exact hz) hl
      rw [ndO_sl ho] at this
      exact this
    · simp only [if_neg k2]
      by_cases k3 : o.k = 3
      · simp only [if_pos k3]
        have := h.set (x := ndO o o.A) hA (by rw [ndO_sl ho]; exact hz)
        rw [ndO_sl ho] at this
        exact this
      · simp only [if_neg k3]
        by_cases k4 : o.k = 4
        · simp only [if_pos k4]
          exact h.move hA hB
        · simp only [if_neg k4]
          by_cases k5 : o.k = 5
          · simp only [if_pos k5]
            exact h.swap hA hB
          · simp only [if_neg k5]
            by_cases k6 : o.k = 6
            · simp only [if_pos k6]
              exact h.rem hl hA
            · simp only [if_neg k6]
              exact ⟨trivial, ⟨σ, h⟩, trivial⟩
theorem RepS.chain {t : TS} : ∀ {r k1 : List Nd} {σ : Int → Sl} {n : Nat}, RepS t (k1 ++ r) σ → r.length ≤ n → chF t.M n (hdA r 0) = tA r
  | [], _, _, n, _, _ => (chF_stop (a := hdA [] 0) (.inl rfl)).trans rfl
  | y :: r, k1, σ, n, h, hn => by
    obtain ⟨m, rfl⟩ : ∃ m, n = m + 1 := ⟨n - 1, by simp at hn; omega⟩
    obtain ⟨e1, e2, e3⟩ := h.mem
    have hnz : y.t ≠ 0 := (h.ok y (by simp)).nz
    have hx : (sN y (hdA r 0) (lsA k1 0)).x = hdA r 0 := rfl
    show chF t.M (m + 1) y.t = _
    have h' : RepS t ((k1 ++ [y]) ++ r) σ := by simpa using h
    rw [chF_on hnz rfl, e2, hx, RepS.chain h' (by simp at hn; omega)]
    rfl
theorem RepS.list {t : TS} {l : List Nd} {σ : Int → Sl} (h : RepS t l σ) : chF t.M t.c.toNat t.f = tA l := by
  rw [h.f, h.c]
  have h' : RepS t ([] ++ l) σ := h
  exact RepS.chain h' (by simp)
set_option maxRecDepth 100000
structure S69_0 where
  x5 : Int
instance : Inhabited S69_0 := ⟨⟨0⟩⟩
set_option maxRecDepth 100000
set_option maxRecDepth 100000
set_option maxRecDepth 100000
set_option maxRecDepth 100000
set_option maxRecDepth 100000
set_option maxRecDepth 100000
set_option maxRecDepth 100000
set_option maxRecDepth 100000
set_option maxRecDepth 100000
set_option maxRecDepth 100000
structure S114_0 where
  x26 : Int
  R2 : th.R
  n6_1 : Nat
  xh4_1 : Int
  xh4_2 : Int
  N5 : Nat
  F5_0 : Nat → Int
  F5_1 : Nat → Int
  F5_2 : Nat → Int
  F5_3 : Nat → Int
  F5_4 : Nat → Int
  F5_5 : Nat → Int
  F5_6 : Nat → Int
  F5_7 : Nat → Int
  F5_8 : Nat → Int
noncomputable instance : Inhabited S114_0 := ⟨⟨0, dR, 0, 0, 0, 0, fun _ => 0, fun _ => 0, fun _ => 0, fun _ => 0, fun _ => 0, fun _ => 0, fun _ => 0, fun _ => 0, fun _ => 0⟩⟩
set_option maxRecDepth 100000
set_option maxRecDepth 100000
set_option maxRecDepth 100000
set_option maxRecDepth 100000
structure V47 where
  k : Int
  a : Int
  b : Int
  r : Int
  g : Int
  s : Int
  m : Int
  x : Int
noncomputable def f47_9 (v : V47) : (Bool) := !f45_1 v.k v.a v.b v.r v.g v.s v.m
noncomputable def f47_10 (v : V47) : (Bool) := cnd (v.k == (9:Int)) (v.m != (0:Int)) false
noncomputable def f47_11 (v : V47) : (Int) := cnd (v.k == (9:Int)) v.k (cnd (v.k == (2:Int)) v.k v.k)
noncomputable def f47_12 (v : V47) : (Int) := cnd (v.k == (9:Int)) v.a (cnd (v.k == (2:Int)) v.a v.a)
noncomputable def f47_13 (v : V47) : (Int) := cnd (v.k == (9:Int)) v.b (cnd (v.k == (2:Int)) v.b v.b)
noncomputable def f47_14 (v : V47) : (Int) := cnd (v.k == (9:Int)) v.r (cnd (v.k == (2:Int)) v.r v.r)
noncomputable def f47_15 (v : V47) : (Int) := cnd (v.k == (9:Int)) v.g (cnd (v.k == (2:Int)) (IntKind.i64.wrap (Go.bits Go.BinOp.and IntKind.u64 v.x (63:Int))) v.g)
noncomputable def f47_16 (v : V47) : (Int) := cnd (v.k == (9:Int)) v.s (cnd (v.k == (2:Int)) v.s v.s)
noncomputable def f47_17 (v : V47) : (Int) := cnd (v.k == (9:Int)) v.x (cnd (v.k == (2:Int)) (v.x.fdiv (64:Int)) v.m)
noncomputable def f47_1 (v : V47) : (Int) := cnd (f47_9 v) (0:Int) (cnd (f47_10 v) (0:Int) (cnd (cnd (v.k == (9:Int)) false (cnd (v.k == (2:Int)) false (v.x != (0:Int)))) (0:Int) (cnd (!f45_1 (f47_11 v) (f47_12 v) (f47_13 v) (f47_14 v) (f47_15 v) (f47_16 v) (f47_17 v)) (0:Int) (f47_11 v))))
noncomputable def f47_2 (v : V47) : (Int) := cnd (f47_9 v) (0:Int) (cnd (f47_10 v) (0:Int) (cnd (cnd (v.k == (9:Int)) false (cnd (v.k == (2:Int)) false (v.x != (0:Int)))) (0:Int) (cnd (!f45_1 (f47_11 v) (f47_12 v) (f47_13 v) (f47_14 v) (f47_15 v) (f47_16 v) (f47_17 v)) (0:Int) (f47_12 v))))
noncomputable def f47_3 (v : V47) : (Int) := cnd (f47_9 v) (0:Int) (cnd (f47_10 v) (0:Int) (cnd (cnd (v.k == (9:Int)) false (cnd (v.k == (2:Int)) false (v.x != (0:Int)))) (0:Int) (cnd (!f45_1 (f47_11 v) (f47_12 v) (f47_13 v) (f47_14 v) (f47_15 v) (f47_16 v) (f47_17 v)) (0:Int) (f47_13 v))))
noncomputable def f47_4 (v : V47) : (Int) := cnd (f47_9 v) (0:Int) (cnd (f47_10 v) (0:Int) (cnd (cnd (v.k == (9:Int)) false (cnd (v.k == (2:Int)) false (v.x != (0:Int)))) (0:Int) (cnd (!f45_1 (f47_11 v) (f47_12 v) (f47_13 v) (f47_14 v) (f47_15 v) (f47_16 v) (f47_17 v)) (0:Int) (f47_14 v))))
noncomputable def f47_5 (v : V47) : (Int) := cnd (f47_9 v) (0:Int) (cnd (f47_10 v) (0:Int) (cnd (cnd (v.k == (9:Int)) false (cnd (v.k == (2:Int)) false (v.x != (0:Int)))) (0:Int) (cnd (!f45_1 (f47_11 v) (f47_12 v) (f47_13 v) (f47_14 v) (f47_15 v) (f47_16 v) (f47_17 v)) (0:Int) (f47_15 v))))
noncomputable def f47_6 (v : V47) : (Int) := cnd (f47_9 v) (0:Int) (cnd (f47_10 v) (0:Int) (cnd (cnd (v.k == (9:Int)) false (cnd (v.k == (2:Int)) false (v.x != (0:Int)))) (0:Int) (cnd (!f45_1 (f47_11 v) (f47_12 v) (f47_13 v) (f47_14 v) (f47_15 v) (f47_16 v) (f47_17 v)) (0:Int) (f47_16 v))))
noncomputable def f47_7 (v : V47) : (Int) := cnd (f47_9 v) (0:Int) (cnd (f47_10 v) (0:Int) (cnd (cnd (v.k == (9:Int)) false (cnd (v.k == (2:Int)) false (v.x != (0:Int)))) (0:Int) (cnd (!f45_1 (f47_11 v) (f47_12 v) (f47_13 v) (f47_14 v) (f47_15 v) (f47_16 v) (f47_17 v)) (0:Int) (f47_17 v))))
set_option maxRecDepth 100000
set_option maxRecDepth 100000
set_option maxRecDepth 100000
noncomputable def mkC (z : Sl) (x:Int) : Sl := ⟨f47_1 ⟨z.k, z.a, z.b, z.r, z.g, z.s, z.m, x⟩, f47_2 ⟨z.k, z.a, z.b, z.r, z.g, z.s, z.m, x⟩, f47_3 ⟨z.k, z.a, z.b, z.r, z.g, z.s, z.m, x⟩, f47_4 ⟨z.k, z.a, z.b, z.r, z.g, z.s, z.m, x⟩,
  f47_5 ⟨z.k, z.a, z.b, z.r, z.g, z.s, z.m, x⟩, f47_6 ⟨z.k, z.a, z.b, z.r, z.g, z.s, z.m, x⟩, f47_7 ⟨z.k, z.a, z.b, z.r, z.g, z.s, z.m, x⟩, 0, 0, 0⟩
def selS (c : Bool) (A B : Sl) : Sl := ⟨cnd c A.k B.k, cnd c A.a B.a, cnd c A.b B.b, cnd c A.r B.r, cnd c A.g B.g, cnd c A.s B.s, cnd c A.m B.m, 0, 0, 0⟩
set_option maxRecDepth 100000
set_option maxRecDepth 100000
set_option maxRecDepth 100000
set_option maxRecDepth 100000
set_option maxRecDepth 100000
set_option maxRecDepth 100000
structure S36r_0 where
  x26 : Int
  R2 : th.R
  n6_1 : Nat
  xh4_1 : Int
  xh4_2 : Int
  N5 : Nat
  F5_0 : Nat → Int
  F5_1 : Nat → Int
  F5_2 : Nat → Int
  F5_3 : Nat → Int
  F5_4 : Nat → Int
  F5_5 : Nat → Int
  F5_6 : Nat → Int
  F5_7 : Nat → Int
  F5_8 : Nat → Int
noncomputable instance : Inhabited S36r_0 := ⟨⟨0, dR, 0, 0, 0, 0, fun _ => 0, fun _ => 0, fun _ => 0, fun _ => 0, fun _ => 0, fun _ => 0, fun _ => 0, fun _ => 0, fun _ => 0⟩⟩
end Go.Sx.M

