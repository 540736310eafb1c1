/- Contracts of the functions of this seat, each by the executor and the kernel; part 4. Their conditions stand in each. -/
import Derived.Test.YtoldganbhlgboaaC3
set_option linter.unusedVariables false
set_option linter.unusedSimpArgs false
set_option linter.unnecessarySimpa false
namespace Go.Sx.M
open Go Go.Sx Go.Proofs Go.RowKit
set_option maxRecDepth 100000
set_option maxRecDepth 100000
set_option maxRecDepth 100000
noncomputable def nice141n : List (Nat × CF th.R) := nice140n
theorem nok141n : NiceOk Try.prog th nice141n := nok140n
set_option maxRecDepth 100000
structure S66_0 where
  n5 : Nat
  x7 : Int
  N2 : Nat
  F2_0 : Nat → Int
noncomputable instance : Inhabited S66_0 := ⟨⟨0, 0, 0, fun _ => 0⟩⟩
set_option maxRecDepth 100000
noncomputable def nice66n : List (Nat × CF th.R) := nice141n
theorem nok66n : NiceOk Try.prog th nice66n := nok141n
set_option maxRecDepth 100000
structure S143_0 where
  n9 : Nat
  x10 : Int
  N4 : Nat
  F4_0 : Nat → Int
  F4_1 : Nat → Int
  F4_2 : Nat → Int
  F4_3 : Nat → Int
  F4_4 : Nat → Int
  F4_5 : Nat → Int
  F4_6 : Nat → Int
  F4_7 : Nat → Int
  F4_8 : Nat → Int
noncomputable instance : Inhabited S143_0 := ⟨⟨0, 0, 0, fun _ => 0, fun _ => 0, fun _ => 0, fun _ => 0, fun _ => 0, fun _ => 0, fun _ => 0, fun _ => 0, fun _ => 0⟩⟩
set_option maxRecDepth 100000
noncomputable def nice143n : List (Nat × CF th.R) := nice66n
theorem nok143n : NiceOk Try.prog th nice143n := nok66n
set_option maxRecDepth 100000
noncomputable def nice142n : List (Nat × CF th.R) := nice143n
theorem nok142n : NiceOk Try.prog th nice142n := nok143n
set_option maxRecDepth 100000
set_option maxRecDepth 100000
structure V54 where
  ok : Int
  oa : Int
  ob : Int
  kc : Int
  ac : Int
  bc : Int
  rc : Int
  gc : Int
  sc : Int
  mc : Int
  f : Int
  c : Int
  M : th.R
def A54 (v : V54) : List SV := [.ptr 0 0, .agg [.int .i64 v.ok, .int .u64 v.oa, .int .u64 v.ob, .int .i64 v.kc, .int .u64 v.ac, .int .i64 v.bc, .int .i64 v.rc, .int .i64 v.gc, .int .i64 v.sc, .int .u64 v.mc]]
def H54 (v : V54) : List (HO th.R) := [.cells 175 [.ptr 1 0, .int .u64 v.f, .int .i64 v.c], .res v.M]
def toV54 (v : V54) : List (Vl th.R) := [.i v.ok, .i v.oa, .i v.ob, .i v.kc, .i v.ac, .i v.bc, .i v.rc, .i v.gc, .i v.sc, .i v.mc, .i v.f, .i v.c, .r v.M]
def ofV54 : List (Vl th.R) → Option V54
  | [.i ok, .i oa, .i ob, .i kc, .i ac, .i bc, .i rc, .i gc, .i sc, .i mc, .i f, .i c, .r M] => some ⟨ok, oa, ob, kc, ac, bc, rc, gc, sc, mc, f, c, M⟩
  | _ => none
def d54 : Ft := ⟨[.ptr 0 0, .agg [.int .i64, .int .u64, .int .u64, .int .i64, .int .u64, .int .i64, .int .i64, .int .i64, .int .i64, .int .u64]], [.cells 175 [.ptr 1 0, .int .u64, .int .i64], .res]⟩
noncomputable def f54_10 (v : V54) : (Sl) := Sl.mk v.kc v.ac v.bc v.rc v.gc v.sc v.mc (0:Int) (0:Int) (0:Int)
noncomputable def f54_11 (v : V54) : (TS) := rtT (TS.mk v.M v.f v.c) v.oa (f54_10 v)
noncomputable def f54_12 (v : V54) : (TS) := chT (TS.mk v.M v.f v.c) v.oa v.ob (f54_10 v)
noncomputable def f54_0 (v : V54) : (Prop) := (v.ok == (1:Int)) = true → pre109 (V109.mk v.oa v.kc v.ac v.bc v.rc v.gc v.sc v.mc v.f v.c v.M)
noncomputable def f54_1 (v : V54) : (Prop) := (v.ok == (1:Int)) = false → (v.ok == (2:Int)) = true → pre56 (V56.mk v.oa v.ob v.kc v.ac v.bc v.rc v.gc v.sc v.mc v.f v.c v.M)
noncomputable def f54_2 (v : V54) : (Prop) := (v.ok == (1:Int)) = false → (v.ok == (2:Int)) = false → (v.ok == (3:Int)) = true → pre130 (V130.mk v.oa v.kc v.ac v.bc v.rc v.gc v.sc v.mc v.f v.c v.M)
noncomputable def f54_3 (v : V54) : (Prop) := (v.ok == (1:Int)) = false → (v.ok == (2:Int)) = false → (v.ok == (3:Int)) = false → (v.ok == (4:Int)) = true → pre61 (V61.mk v.oa v.ob v.f v.c v.M)
noncomputable def f54_4 (v : V54) : (Prop) := (v.ok == (1:Int)) = false → (v.ok == (2:Int)) = false → (v.ok == (3:Int)) = false → (v.ok == (4:Int)) = false → (v.ok == (5:Int)) = true → pre131 (V131.mk v.oa v.ob v.f v.c v.M)
noncomputable def f54_5 (v : V54) : (Prop) := (v.ok == (1:Int)) = false → (v.ok == (2:Int)) = false → (v.ok == (3:Int)) = false → (v.ok == (4:Int)) = false → (v.ok == (5:Int)) = false → (v.ok == (6:Int)) = true → pre63 (V63.mk v.oa v.f v.c v.M)
noncomputable def f54_6 (v : V54) : (Int) := cnd (v.ok == (1:Int)) (rtE (TS.mk v.M v.f v.c) v.oa (f54_10 v)) (cnd (v.ok == (2:Int)) (chE (TS.mk v.M v.f v.c) v.oa v.ob (f54_10 v)) (cnd (v.ok == (3:Int)) (seE (TS.mk v.M v.f v.c) v.oa (f54_10 v)) (cnd (v.ok == (4:Int)) (mvE (TS.mk v.M v.f v.c) v.oa v.ob) (cnd (v.ok == (5:Int)) (swE (TS.mk v.M v.f v.c) v.oa v.ob) (cnd (v.ok == (6:Int)) (rmE (TS.mk v.M v.f v.c) v.oa) (0:Int))))))
noncomputable def f54_7 (v : V54) : (Int) := cnd (v.ok == (1:Int)) (f54_11 v).f (cnd (v.ok == (2:Int)) (f54_12 v).f (cnd (v.ok == (3:Int)) v.f (cnd (v.ok == (4:Int)) (mvT (TS.mk v.M v.f v.c) v.oa v.ob).f (cnd (v.ok == (5:Int)) (swT (TS.mk v.M v.f v.c) v.oa v.ob).f (cnd (v.ok == (6:Int)) (rmT (TS.mk v.M v.f v.c) v.oa).f v.f)))))
noncomputable def f54_8 (v : V54) : (Int) := cnd (v.ok == (1:Int)) (f54_11 v).c (cnd (v.ok == (2:Int)) (f54_12 v).c (cnd (v.ok == (3:Int)) v.c (cnd (v.ok == (4:Int)) (mvT (TS.mk v.M v.f v.c) v.oa v.ob).c (cnd (v.ok == (5:Int)) (swT (TS.mk v.M v.f v.c) v.oa v.ob).c (cnd (v.ok == (6:Int)) (rmT (TS.mk v.M v.f v.c) v.oa).c v.c)))))
noncomputable def f54_9 (v : V54) : (Mem) := mrgM (v.ok == (1:Int)) (f54_11 v).M (mrgM (v.ok == (2:Int)) (f54_12 v).M (mrgM (v.ok == (3:Int)) (seT (TS.mk v.M v.f v.c) v.oa (f54_10 v)).M (mrgM (v.ok == (4:Int)) (mvT (TS.mk v.M v.f v.c) v.oa v.ob).M (mrgM (v.ok == (5:Int)) (swT (TS.mk v.M v.f v.c) v.oa v.ob).M (mrgM (v.ok == (6:Int)) (rmT (TS.mk v.M v.f v.c) v.oa).M v.M)))))
noncomputable def ff54 (v : V54) : Tr (Fin th.R) := (Tr.need (f54_0 v) (Tr.need (f54_1 v) (Tr.need (f54_2 v) (Tr.need (f54_3 v) (Tr.need (f54_4 v) (Tr.need (f54_5 v) (Tr.leaf (SV.int .i64 (f54_6 v), [(HO.cells (175:Nat) [(SV.ptr (1:Nat) (0:Nat)), SV.int .u64 (f54_7 v), SV.int .i64 (f54_8 v)]), HO.res (f54_9 v)], [(0:Nat), (1:Nat), (0:Nat), (1:Nat), (1:Nat), (0:Nat), (1:Nat), (0:Nat), (1:Nat), (0:Nat), (1:Nat)]))))))))
noncomputable def f54 (v : V54) : Tr (Fin th.R) := (Tr.need (f54_0 v) (Tr.need (f54_1 v) (Tr.need (f54_2 v) (Tr.need (f54_3 v) (Tr.need (f54_4 v) (Tr.need (f54_5 v) (Tr.leaf (SV.int .i64 (f54_6 v), [(HO.cells (175:Nat) [(SV.ptr (1:Nat) (0:Nat)), SV.int .u64 (f54_7 v), SV.int .i64 (f54_8 v)]), HO.res (f54_9 v)], [0, 1]))))))))
noncomputable def C54 : CF th.R := fnC d54 ofV54 (f54 )
theorem q54 (v : V54) : (evFn th Try.prog (auto th Try.prog nice142n [] 20) (autoH [] [] [] [] : Hints th) 54) (A54 v) (H54 v) = some (ff54 v) := by kernel_rfl
theorem qg54 (v : V54) : ((ff54 v).map (setD [0, 1])).get = (f54 v).get := by kernel_rfl
theorem qd54 (v : V54) : allD 2 [0, 1] (ff54 v) = true := by kernel_rfl
theorem s54 : Sound Try.prog th 54 (C54 ) := fnC_sound (evFn_sound' (T := th) (P := Try.prog) (tbl := (auto th Try.prog nice142n [] 20)) (auto_sound (nice := nice142n) (us := []) nok142n 20) (H := (autoH [] [] [] [] : Hints th)) (k := 54) (fnLoops (LoopsOk_mem (fun _ => rfl) _ fun _ _ _ e => by cases e))) d54 A54 H54 toV54 (by kernel_rfl) (fun v => by kernel_rfl)
  (fun l v h => by
    unfold ofV54 at h
    split at h
    · cases h; rfl
    · cases h)
  [0, 1] (fun v => ⟨ff54 v, q54 v, id, qg54 v, qd54 v⟩)
theorem qdd54 (v : V54) : (f54 v).get.2.2 = [0, 1] := by
  rw [← qg54, Tr.map_get]; rfl
theorem RepS.mem {t : TS} {k1 r : List Nd} {y : Nd} {σ : Int → Sl} (h : RepS t (k1 ++ y :: r) σ) : Go.Sx.M.hdE t.M y.t = 0 ∧ Go.Sx.M.ld t.M y.t = sN y (hdA r 0) (lsA k1 0) ∧ U64 y.t := by
  have hm : y ∈ k1 ++ y :: r := by simp
  have ok := h.ok y hm
  have hu : U64 y.t := ⟨ok.at_.1, by have := ok.at_.2.2; have := h.E.s2; omega⟩
  obtain ⟨_, q⟩ := DL_app.1 h.dl
  obtain ⟨q, _⟩ := q
  have hl : Go.Sx.M.ld t.M y.t = sN y (hdA r 0) (lsA k1 0) := (h.E.ld ok.at_).1.trans q
  refine ⟨?_, hl, hu⟩
  unfold Go.Sx.M.hdE
  rw [(h.E.ld ok.at_).2, hl]
  have : (sN y (hdA r 0) (lsA k1 0)).k = y.k := rfl
  rw [this, beq_eq_false_iff_ne.2 ok.k]
  rfl
theorem hdT_mem {t : TS} {l : List Nd} {σ : Int → Sl} (h : RepS t l σ) {y : Nd} (hm : y ∈ l) : hdT t.M.size l y.t = 0 := by
  obtain ⟨k1, r, rfl⟩ := List.append_of_mem hm
  obtain ⟨a, _, c⟩ := h.mem
  rw [← h.hdE c]
  exact a
theorem RepS.bl {t : TS} {d : Int} : ∀ {r k1 : List Nd} {σ : Int → Sl} {n : Nat}, RepS t (k1 ++ r) σ → r.length ≤ n → blF t.M d n (hdA r 0) = (r.takeWhile (fun x => decide (x.d > d))).map Nd.t
  | [], _, _, n, _, _ => by
    exact (blF_stop (a := hdA [] 0) (.inl rfl)).trans rfl
  | y :: r, k1, σ, n, h, hn => by
    obtain ⟨m, rfl⟩ : ∃ m, n = m + 1 := ⟨n - 1, by simp at hn; omega⟩
    obtain ⟨e1, e2, e3⟩ := h.mem
    have hnz : y.t ≠ 0 := (h.ok y (by simp)).nz
    have hd : (sN y (hdA r 0) (lsA k1 0)).d = y.d := rfl
    have hx : (sN y (hdA r 0) (lsA k1 0)).x = hdA r 0 := rfl
    show blF t.M d (m + 1) y.t = _
    rw [List.takeWhile_cons]
    by_cases hc : y.d > d
    · rw [blF_on hnz (by rw [e1, e2, hd]; intro e; rcases e with e | e <;> omega) rfl, e2, hx, decide_eq_true hc]
      have h' : RepS t ((k1 ++ [y]) ++ r) σ := by simpa using h
      rw [RepS.bl h' (by simp at hn; omega)]
      rfl
    · rw [blF_stop (.inr (.inr (.inr (by rw [e2, hd]; omega)))), decide_eq_false hc]
      rfl
theorem RepS.len_le {t : TS} {l : List Nd} {σ : Int → Sl} (h : RepS t l σ) : (l.length:Int) ≤ t.c := by rw [h.c]; exact Int.le_refl _
theorem mem_tw {α : Type} {p : α → Bool} : ∀ {l : List α} {x : α}, x ∈ l.takeWhile p → p x = true
  | [], _, h => by cases h
  | y :: l, x, h => by
    rw [List.takeWhile_cons] at h
    cases hp : p y with
    | true =>
      rw [hp] at h
      rcases List.mem_cons.1 h with rfl | h
      · exact hp
      · exact mem_tw h
    | false => rw [hp] at h; cases h
def dW (x : Nd) : Nd := { x with d := IntKind.i64.wrap (x.d - 1) }
theorem rmG_C {i b : Nat} : ∀ (r : List Nd) (k:Nat), i + b < k → rmG i b k r = r
  | [], _, _ => rfl
  | x :: r, k, h => by
    unfold rmG
    rw [if_pos (by omega), if_neg (by omega), rmG_C r (k + 1) (by omega)]
theorem rmG_B {i b : Nat} {r : List Nd} : ∀ (lb : List Nd) (k:Nat), i < k → k + lb.length = i + b + 1 → rmG i b k (lb ++ r) = lb.map dW ++ r
  | [], k, h1, h2 => by
    simp only [List.length_nil] at h2
    exact rmG_C r k (by omega)
  | x :: lb, k, h1, h2 => by
    simp only [List.length_cons] at h2
    show rmG i b k (x :: (lb ++ r)) = _
    unfold rmG
    rw [if_pos (by omega), if_pos (by omega), rmG_B lb (k + 1) (by omega) (by omega)]
    rfl
theorem rmG_A {i b : Nat} {g : Nd} {r : List Nd} : ∀ (l1 : List Nd) (k:Nat), k + l1.length = i → rmG i b k (l1 ++ g :: r) = l1 ++ rmG i b (i + 1) r
  | [], k, h => by
    simp only [List.length_nil, Nat.add_zero] at h
    subst h
    show rmG k b k (g :: r) = _
    rw [rmG, if_neg (by simp)]
    rfl
  | x :: l1, k, h => by
    simp only [List.length_cons] at h
    show rmG i b k (x :: (l1 ++ g :: r)) = _
    rw [rmG, if_pos (by omega), if_neg (by omega), rmG_A l1 (k + 1) (by omega)]
    rfl
theorem hdA_dN (lb l3 : List Nd) (n:Int) : hdA (lb.map dN ++ l3) n = hdA (lb ++ l3) n := by
  cases lb <;> rfl
theorem RepS.below {t : TS} {l : List Nd} {σ : Int → Sl} (h : RepS t l σ) (hl : l.length ≤ 100000) {a : Int} (hua : U64 a) : blw t.M t.c a = bwL l a := by
  unfold blw
  rw [h.hdE hua]
  by_cases hz : hdT t.M.size l a = 0
  · obtain ⟨l1, l2, g, rfl, ht, hf, ha, hld, hs, hok⟩ := h.at_ hua hz
    rw [if_neg (by simp [hz]), hld]
    have hd : (sN g (hdA l2 0) (lsA l1 0)).d = g.d := rfl
    have hx : (sN g (hdA l2 0) (lsA l1 0)).x = hdA l2 0 := rfl
    rw [hd, hx]
    have h' : RepS t ((l1 ++ [g]) ++ l2) σ := by simpa using h
    have hlen : l2.length ≤ (t.c + 1).toNat := by
      have := h.len_le
      simp only [List.length_append, List.length_cons] at this
      omega
    rw [RepS.bl h' hlen]
    unfold bwL
    rw [hf, ha, if_neg (by omega)]
    unfold bwT
    have : (l1 ++ g :: l2).drop ((l1.length:Int).toNat + 1) = l2 := by simp
    rw [this]
  · rw [if_pos hz]
    unfold bwL
    rcases h.ld hua with ⟨_, m0, _, _, ⟨i, hi, ht, hf, hm, _⟩ | ⟨_, hf, _⟩⟩ | ⟨_, _, _, _, hf, _⟩
    · have := hdT_mem h hm
      rw [ht] at this
      exact absurd this hz
    · rw [hf, if_pos (by omega)]
    · rw [hf, if_pos (by omega)]
theorem RepS.rem {t : TS} {l : List Nd} {σ : Int → Sl} (h : RepS t l σ) (hl : l.length ≤ 100000) {a : Int} (hua : U64 a) :
    rmE t a = hdT t.M.size l a ∧ (∃ τ, RepS (rmT t a) (rmL t.M.size l a) τ) ∧ (rmT t a).M.size = t.M.size := by
  have hb := h.below hl hua
  have e1 := h.hdE hua
  unfold rmE rmT rmL
  rw [e1, hb]
  refine ⟨rfl, ?_⟩
  by_cases hz : hdT t.M.size l a = 0
  · obtain ⟨l1, l2, g, rfl, ht, hf, ha, hld, hs, hok⟩ := h.at_ hua hz
    have hb1 : (hdT t.M.size (l1 ++ g :: l2) a != 0) = false := by simp [hz]
    have hd0 := (h.ok g (by simp)).d0
    simp only [hb1, mrgM_f, cnd_f]
    rw [hld]
    have hpp : (sN g (hdA l2 0) (lsA l1 0)).p = lsA l1 0 := rfl
    have hxx : (sN g (hdA l2 0) (lsA l1 0)).x = hdA l2 0 := rfl
    rw [hpp, hxx]
    -- what is below
    have hbw : bwL (l1 ++ g :: l2) a = tA (l2.takeWhile (fun x => decide (x.d > g.d))) := by
      unfold bwL
      rw [hf, ha, if_neg (by omega)]
      unfold bwT
      have : (l1 ++ g :: l2).drop ((l1.length:Int).toNat + 1) = l2 := by simp
      rw [this]
      rfl
    obtain ⟨lb, l3, hlb, hsp, hdeep⟩ : ∃ lb l3, lb = l2.takeWhile (fun x => decide (x.d > g.d)) ∧ l2 = lb ++ l3 ∧ ∀ y, y ∈ lb → y.d > g.d := by
      refine ⟨_, l2.dropWhile (fun x => decide (x.d > g.d)), rfl, List.takeWhile_append_dropWhile.symm, fun y hy => ?_⟩
      have := mem_tw hy
      simpa using this
    rw [hbw, ← hlb]
    have hh : RepS t ((l1 ++ [g]) ++ lb ++ l3) σ := by rw [hsp] at h; simpa using h
    obtain ⟨τ, R, z⟩ := RepS.decs hh fun y hy => by have := hdeep y hy; omega
    have R' : RepS ⟨(tA lb).foldl tD t.M, t.f, t.c⟩ (l1 ++ g :: (lb.map dN ++ l3)) τ := by simpa using R
    obtain ⟨τ2, R2, z2'⟩ := RepS.del R' (by rw [hsp] at hl; simpa using hl)
    rw [hdA_dN, ← hsp, ht] at R2 z2'
    have hlen : (l1.length:Int).toNat = l1.length := by simp
    have hrm : rmG (fnd (l1 ++ g :: l2) a).toNat (tA lb).length 0 (l1 ++ g :: l2) = l1 ++ (lb.map dN ++ l3) := by
      rw [hf, hlen, rmG_A l1 0 (by omega), hsp]
      congr 1
      rw [rmG_B lb (l1.length + 1) (by omega) (by simp [tA]; omega)]
      congr 1
      apply List.map_congr_left
      intro y hy
      have h1 := hdeep y hy
      have h2 := (h.ok y (by rw [hsp]; simp [hy])).d1
      unfold dW dN
      rw [wi (by omega) (by omega)]
    rw [hrm]
    exact ⟨⟨τ2, R2⟩, z2'.trans z⟩
  · have hb1 : (hdT t.M.size l a != 0) = true := by simp [hz]
    simp only [hb1, mrgM_t, cnd_t]
    exact ⟨⟨σ, h⟩, trivial⟩
structure Op where
  k : Int
  A : Int
  B : Int
  z : Sl
def Op.R (o : Op) : Prop := U64 o.A ∧ U64 o.B ∧ SlR o.z ∧ o.z.x = 0 ∧ o.z.p = 0 ∧ o.z.d = 0
def ndO (o : Op) (a:Int) : Nd := ⟨a, o.z.k, o.z.a, o.z.b, o.z.r, o.z.g, o.z.s, o.z.m, 0⟩
theorem ndO_sl {o : Op} (h : o.R) (a:Int) : slN (ndO o a) = o.z := by
  obtain ⟨_, _, _, h1, h2, h3⟩ := h
  obtain ⟨k, A, B, z⟩ := o
  cases z
  simp only at h1 h2 h3
  subst h1 h2 h3
  rfl
noncomputable def dnT (t : TS) (o : Op) : TS := if o.k = 1 then rtT t o.A o.z else if o.k = 2 then chT t o.A o.B o.z else if o.k = 3 then seT t o.A o.z else if o.k = 4 then mvT t o.A o.B else if o.k = 5 then swT t o.A o.B else if o.k = 6 then rmT t o.A else t
noncomputable def dnE (t : TS) (o : Op) : Int := if o.k = 1 then rtE t o.A o.z else if o.k = 2 then chE t o.A o.B o.z else if o.k = 3 then seE t o.A o.z else if o.k = 4 then mvE t o.A o.B else if o.k = 5 then swE t o.A o.B else if o.k = 6 then rmE t o.A else 0
def mdL (z:Int) (l : List Nd) (o : Op) : List Nd := if o.k = 1 then rtL z l (ndO o o.A) else if o.k = 2 then chL z l o.A (ndO o o.B) else if o.k = 3 then seL z l (ndO o o.A) else if o.k = 4 then mvL z l o.A o.B else if o.k = 5 then swL z l o.A o.B else if o.k = 6 then rmL z l o.A else l
def mdR (z:Int) (l : List Nd) (o : Op) : Int := if o.k = 1 then rtR z l (ndO o o.A) else if o.k = 2 then chR z l o.A (ndO o o.B) else if o.k = 3 then seR z l (ndO o o.A) else if o.k = 4 then mvR z l o.A o.B else if o.k = 5 then swR z l o.A o.B else if o.k = 6 then hdT z l o.A else 0
theorem RepS.step {t : TS} {l : List Nd} {σ : Int → Sl} (h : RepS t l σ) (hl : l.length ≤ 100000) {o : Op} (ho : o.R) :
    dnE t o = mdR t.M.size l o ∧ (∃ τ, RepS (dnT t o) (mdL t.M.size l o) τ) ∧ (dnT t o).M.size = t.M.size := by
  have hA := ho.1
  have hB := ho.2.1
  have hz := ho.2.2.1
  unfold dnE dnT mdR mdL
  by_cases k1 : o.k = 1
  · simp only [if_pos k1]
    have := h.root (x := ndO o o.A) hA (by rw [ndO_sl ho]; exact hz) rfl hl
    rw [ndO_sl ho] at this
    exact this
  · simp only [if_neg k1]
    by_cases k2 : o.k = 2
    · simp only [if_pos k2]
      have := h.child (p := o.A) (x := ndO o o.B) hA hB (by rw [ndO_sl ho]; exact hz) hl
      rw [ndO_sl ho] at this
      exact this
    · simp only [if_neg k2]
      by_cases k3 : o.k = 3
      · simp only [if_pos k3]
        have := h.set (x := ndO o o.A) hA (by rw [ndO_sl ho]; exact hz)
        rw [ndO_sl ho] at this
        exact this
      · simp only [if_neg k3]
        by_cases k4 : o.k = 4
        · simp only [if_pos k4]
          exact h.move hA hB
        · simp only [if_neg k4]
          by_cases k5 : o.k = 5
          · simp only [if_pos k5]
            exact h.swap hA hB
          · simp only [if_neg k5]
            by_cases k6 : o.k = 6
            · simp only [if_pos k6]
              exact h.rem hl hA
            · simp only [if_neg k6]
              exact ⟨trivial, ⟨σ, h⟩, trivial⟩
theorem mdL_len (z:Int) (l : List Nd) (o : Op) : (mdL z l o).length ≤ l.length + 1 := by
  unfold mdL
  split
  · exact rtL_len _ _ _
  · split
    · unfold chL
      cases (hdT z l o.A != 0) <;> simp only [cnd_t, cnd_f]
      · cases (ftT z l (ndO o o.B) != 0) <;> simp only [cnd_t, cnd_f]
        · cases decide ((atN l o.A).d ≥ 4096) <;> simp only [cnd_t, cnd_f]
          · exact Nat.le_of_eq (putN_len _ _ _)
          · exact Nat.le_succ _
        · exact Nat.le_succ _
      · exact Nat.le_succ _
    · split
      · unfold seL
        cases (hdT z l (ndO o o.A).t != 0) <;> simp only [cnd_t, cnd_f]
        · cases badC (ndO o o.A) <;> simp [cnd_t, cnd_f]
        · exact Nat.le_succ _
      · split
        · unfold mvL
          cases (hdT z l o.A != 0) <;> simp only [cnd_t, cnd_f]
          · cases (frT z l o.B != 0) <;> simp [cnd_t, cnd_f]
          · exact Nat.le_succ _
        · split
          · unfold swL
            cases (hdT z l o.A != 0) <;> simp only [cnd_t, cnd_f]
            · cases (hdT z l o.B != 0) <;> simp [cnd_t, cnd_f, swp_len]
            · exact Nat.le_succ _
          · split
            · unfold rmL
              cases (hdT z l o.A != 0) <;> simp only [cnd_t, cnd_f]
              · exact Nat.le_succ_of_le (rmG_len _ _ _ _)
              · exact Nat.le_succ _
            · exact Nat.le_succ _
theorem dnT_R {t : TS} (h : TR t) {o : Op} (ho : o.R) : TR (dnT t o) := by
  unfold dnT
  split
  · exact rtT_R h ho.1 ho.2.2.1
  · split
    · exact chT_R h ho.1 ho.2.1 ho.2.2.1
    · split
      · exact seT_R h ho.2.2.1
      · split
        · exact mvT_R h ho.2.1
        · split
          · exact swT_R h ho.1 ho.2.1
          · split
            · exact rmT_R h
            · exact h
set_option maxRecDepth 100000
def pre54 (v : V54) : Prop := TR (TS.mk v.M v.f v.c) ∧ v.c ≤ 100000 ∧ (Op.mk v.ok v.oa v.ob (Sl.mk v.kc v.ac v.bc v.rc v.gc v.sc v.mc 0 0 0)).R
theorem n54 (v : V54) (h : pre54 v) : (f54 v).ok ∧ (f54 v).get.1 = .int .i64 (dnE (TS.mk v.M v.f v.c) (Op.mk v.ok v.oa v.ob (Sl.mk v.kc v.ac v.bc v.rc v.gc v.sc v.mc 0 0 0))) ∧ HOws (f54 v).get.2.1 [HO.cells 175 [.ptr 1 0, .int .u64 ((dnT (TS.mk v.M v.f v.c) (Op.mk v.ok v.oa v.ob (Sl.mk v.kc v.ac v.bc v.rc v.gc v.sc v.mc 0 0 0))).f), .int .i64 ((dnT (TS.mk v.M v.f v.c) (Op.mk v.ok v.oa v.ob (Sl.mk v.kc v.ac v.bc v.rc v.gc v.sc v.mc 0 0 0))).c)], HO.res (dnT (TS.mk v.M v.f v.c) (Op.mk v.ok v.oa v.ob (Sl.mk v.kc v.ac v.bc v.rc v.gc v.sc v.mc 0 0 0))).M] := by
  obtain ⟨ht, hc, ha, hb, hz, _⟩ := h
  have E1 : f54_6 v = dnE ⟨v.M, v.f, v.c⟩ ⟨v.ok, v.oa, v.ob, ⟨v.kc, v.ac, v.bc, v.rc, v.gc, v.sc, v.mc, 0, 0, 0⟩⟩ := by
    unfold f54_6 dnE f54_10
    simp only [cndB, beq_iff_eq]
  have E2 : f54_7 v = (dnT ⟨v.M, v.f, v.c⟩ ⟨v.ok, v.oa, v.ob, ⟨v.kc, v.ac, v.bc, v.rc, v.gc, v.sc, v.mc, 0, 0, 0⟩⟩).f := by
    unfold f54_7 dnT f54_11 f54_12 f54_10
    simp only [cndB, beq_iff_eq]
    repeat' split
    all_goals rfl
  have E3 : f54_8 v = (dnT ⟨v.M, v.f, v.c⟩ ⟨v.ok, v.oa, v.ob, ⟨v.kc, v.ac, v.bc, v.rc, v.gc, v.sc, v.mc, 0, 0, 0⟩⟩).c := by
    unfold f54_8 dnT f54_11 f54_12 f54_10
    simp only [cndB, beq_iff_eq]
    repeat' split
    all_goals rfl
  have E4 : f54_9 v = (dnT ⟨v.M, v.f, v.c⟩ ⟨v.ok, v.oa, v.ob, ⟨v.kc, v.ac, v.bc, v.rc, v.gc, v.sc, v.mc, 0, 0, 0⟩⟩).M := by
    unfold f54_9 dnT f54_11 f54_12 f54_10
    by_cases k1 : v.ok = 1
    · have hb : (v.ok == 1) = true := beq_iff_eq.2 k1
      rw [hb, if_pos k1]
      rfl
    · rw [beq_eq_false_iff_ne.2 k1, if_neg k1]
      refine Eq.trans (mrgM_f _ _) ?_
      by_cases k2 : v.ok = 2
      · have hb : (v.ok == 2) = true := beq_iff_eq.2 k2
        rw [hb, if_pos k2]
        rfl
      · rw [beq_eq_false_iff_ne.2 k2, if_neg k2]
        refine Eq.trans (mrgM_f _ _) ?_
        by_cases k3 : v.ok = 3
        · have hb : (v.ok == 3) = true := beq_iff_eq.2 k3
          rw [hb, if_pos k3]
          rfl
        · rw [beq_eq_false_iff_ne.2 k3, if_neg k3]
          refine Eq.trans (mrgM_f _ _) ?_
          by_cases k4 : v.ok = 4
          · have hb : (v.ok == 4) = true := beq_iff_eq.2 k4
            rw [hb, if_pos k4]
            rfl
          · rw [beq_eq_false_iff_ne.2 k4, if_neg k4]
            refine Eq.trans (mrgM_f _ _) ?_
            by_cases k5 : v.ok = 5
            · have hb : (v.ok == 5) = true := beq_iff_eq.2 k5
              rw [hb, if_pos k5]
              rfl
            · rw [beq_eq_false_iff_ne.2 k5, if_neg k5]
              refine Eq.trans (mrgM_f _ _) ?_
              by_cases k6 : v.ok = 6
              · have hb : (v.ok == 6) = true := beq_iff_eq.2 k6
                rw [hb, if_pos k6]
                rfl
              · rw [beq_eq_false_iff_ne.2 k6, if_neg k6]
                refine Eq.trans (mrgM_f _ _) ?_
                rfl
  refine ⟨⟨fun _ => ⟨ha, hz, ht⟩, fun _ _ => ⟨⟨ha, hb⟩, hz, ht⟩, fun _ _ _ => ⟨ha, hz, ht⟩, fun _ _ _ _ => ⟨⟨ha, hb⟩, ht⟩, fun _ _ _ _ _ => ⟨⟨ha, hb⟩, ht⟩, fun _ _ _ _ _ _ => ⟨ha, ht, hc⟩, trivial⟩, ?_, ?_⟩
  · simp only [f54, Tr.get, E1]
  · simp only [f54, Tr.get, E2, E3, E4]
    exact .refl _
noncomputable def f54n (v : V54) : Tr (Fin th.R) := .need (pre54 v) (.leaf (.int .i64 (dnE (TS.mk v.M v.f v.c) (Op.mk v.ok v.oa v.ob (Sl.mk v.kc v.ac v.bc v.rc v.gc v.sc v.mc 0 0 0))), [.cells 175 [.ptr 1 0, .int .u64 ((dnT (TS.mk v.M v.f v.c) (Op.mk v.ok v.oa v.ob (Sl.mk v.kc v.ac v.bc v.rc v.gc v.sc v.mc 0 0 0))).f), .int .i64 ((dnT (TS.mk v.M v.f v.c) (Op.mk v.ok v.oa v.ob (Sl.mk v.kc v.ac v.bc v.rc v.gc v.sc v.mc 0 0 0))).c)], .res (dnT (TS.mk v.M v.f v.c) (Op.mk v.ok v.oa v.ob (Sl.mk v.kc v.ac v.bc v.rc v.gc v.sc v.mc 0 0 0))).M], [0, 1]))
theorem s54n : Sound Try.prog th 54 (fnC d54 ofV54 f54n) := fnC_refine s54 fun v h => by
  obtain ⟨hp, _⟩ := h
  obtain ⟨a, b, c⟩ := n54 v hp
  exact ⟨a, b.symm, (qdd54 v).symm, c, by show 2 ≤ 2; decide⟩
noncomputable def nice54n : List (Nat × CF th.R) := (54, lift (fnC d54 ofV54 f54n)) :: nice142n
theorem nok54n : NiceOk Try.prog th nice54n := ⟨lift_sound s54n, nok142n⟩
set_option maxRecDepth 100000
noncomputable def nice64n : List (Nat × CF th.R) := nice54n
theorem nok64n : NiceOk Try.prog th nice64n := nok54n
set_option maxRecDepth 100000
structure V57 where
  x : Int
def A57 (v : V57) : List SV := [.int .u64 v.x]
def H57 (v : V57) : List (HO th.R) := []
def toV57 (v : V57) : List (Vl th.R) := [.i v.x]
def ofV57 : List (Vl th.R) → Option V57
  | [.i x] => some ⟨x⟩
  | _ => none
def d57 : Ft := ⟨[.int .u64], []⟩

noncomputable def ff57 (v : V57) : Tr (Fin th.R) := (Tr.leaf ((SV.agg [(SV.int .i64 (8:Int)), SV.int .u64 (v.x), (SV.int .i64 (7:Int)), (SV.int .i64 (0:Int)), (SV.int .i64 (0:Int)), (SV.int .i64 (0:Int)), (SV.int .u64 (0:Int))]), List.nil, List.nil))
noncomputable def f57 (v : V57) : Tr (Fin th.R) := (Tr.leaf ((SV.agg [(SV.int .i64 (8:Int)), SV.int .u64 (v.x), (SV.int .i64 (7:Int)), (SV.int .i64 (0:Int)), (SV.int .i64 (0:Int)), (SV.int .i64 (0:Int)), (SV.int .u64 (0:Int))]), List.nil, []))
noncomputable def C57 : CF th.R := fnC d57 ofV57 (f57 )
theorem q57 (v : V57) : (evFn th Try.prog (auto th Try.prog nice64n [] 20) (autoH [] [] [] [] : Hints th) 57) (A57 v) (H57 v) = some (ff57 v) := by kernel_rfl
theorem qg57 (v : V57) : ((ff57 v).map (setD [])).get = (f57 v).get := by kernel_rfl
theorem qd57 (v : V57) : allD 0 [] (ff57 v) = true := by kernel_rfl
theorem s57 : Sound Try.prog th 57 (C57 ) := fnC_sound (evFn_sound' (T := th) (P := Try.prog) (tbl := (auto th Try.prog nice64n [] 20)) (auto_sound (nice := nice64n) (us := []) nok64n 20) (H := (autoH [] [] [] [] : Hints th)) (k := 57) (fnLoops (LoopsOk_mem (fun _ => rfl) _ fun _ _ _ e => by cases e))) d57 A57 H57 toV57 (by kernel_rfl) (fun v => by kernel_rfl)
  (fun l v h => by
    unfold ofV57 at h
    split at h
    · cases h; rfl
    · cases h)
  [] (fun v => ⟨ff57 v, q57 v, id, qg57 v, qd57 v⟩)
noncomputable def nice57 : List (Nat × CF th.R) := (57, lift C57) :: nice64n
theorem nok57 : NiceOk Try.prog th nice57 := ⟨lift_sound s57, nok64n⟩
set_option maxRecDepth 100000
structure V53 where
def A53 (v : V53) : List SV := []
def H53 (v : V53) : List (HO th.R) := []
def toV53 (v : V53) : List (Vl th.R) := []
def ofV53 : List (Vl th.R) → Option V53
  | [] => some ⟨⟩
  | _ => none
def d53 : Ft := ⟨[], []⟩
noncomputable def f53_0 (v : V53) : (Mem) := newM (65536:Int)
noncomputable def ff53 (v : V53) : Tr (Fin th.R) := (Tr.ite (false) (Tr.leaf ((SV.tup [SV.nilp, SV.nilp, (SV.agg [(SV.int .u64 (65536:Int)), SV.nils])]), List.nil, List.nil)) (Tr.leaf ((SV.tup [(SV.ptr (3) (0:Nat)), (SV.ptr (1) (0:Nat)), (SV.agg [(SV.int .u64 (65536:Int)), SV.nils])]), [(HO.cells (55:Nat) [(SV.int .u64 (65536:Int)), SV.nils]), HO.res (f53_0 v), (HO.cells (55:Nat) [(SV.int .u64 (65536:Int)), SV.nils]), (HO.cells (175:Nat) [(SV.ptr (1) (0:Nat)), (SV.int .u64 (0:Int)), (SV.int .i64 (0:Int))])], [0, 2])))
noncomputable def f53 (v : V53) : Tr (Fin th.R) := (Tr.ite (false) (Tr.leaf ((SV.tup [SV.nilp, SV.nilp, (SV.agg [(SV.int .u64 (65536:Int)), SV.nils])]), List.nil, [])) (Tr.leaf ((SV.tup [(SV.ptr (3) (0:Nat)), (SV.ptr (1) (0:Nat)), (SV.agg [(SV.int .u64 (65536:Int)), SV.nils])]), [(HO.cells (55:Nat) [(SV.int .u64 (65536:Int)), SV.nils]), HO.res (f53_0 v), (HO.cells (55:Nat) [(SV.int .u64 (65536:Int)), SV.nils]), (HO.cells (175:Nat) [(SV.ptr (1) (0:Nat)), (SV.int .u64 (0:Int)), (SV.int .i64 (0:Int))])], [])))
noncomputable def C53 : CF th.R := fnC d53 ofV53 (f53 )
theorem q53 (v : V53) : (evFn th Try.prog (auto th Try.prog nice57 [] 20) (autoH [] [] [] [] : Hints th) 53) (A53 v) (H53 v) = some (ff53 v) := by kernel_rfl
theorem qg53 (v : V53) : ((ff53 v).map (setD [])).get = (f53 v).get := by kernel_rfl
theorem qd53 (v : V53) : allD 0 [] (ff53 v) = true := by kernel_rfl
theorem s53 : Sound Try.prog th 53 (C53 ) := fnC_sound (evFn_sound' (T := th) (P := Try.prog) (tbl := (auto th Try.prog nice57 [] 20)) (auto_sound (nice := nice57) (us := []) nok57 20) (H := (autoH [] [] [] [] : Hints th)) (k := 53) (fnLoops (LoopsOk_mem (fun _ => rfl) _ fun _ _ _ e => by cases e))) d53 A53 H53 toV53 (by kernel_rfl) (fun v => by kernel_rfl)
  (fun l v h => by
    unfold ofV53 at h
    split at h
    · cases h; rfl
    · cases h)
  [] (fun v => ⟨ff53 v, q53 v, id, qg53 v, qd53 v⟩)
theorem qdd53 (v : V53) : (f53 v).get.2.2 = [] := by
  rw [← qg53, Tr.map_get]; rfl
set_option maxRecDepth 100000
def pre53 (v : V53) : Prop := True
theorem n53 (v : V53) (h : pre53 v) : (f53 v).ok ∧ (f53 v).get.1 = .tup [.ptr 3 0, .ptr 1 0, .agg [.int .u64 65536, .nils]] ∧ HOws (f53 v).get.2.1 [HO.gone, HO.res op0.1.M, HO.gone, HO.cells 175 [.ptr 1 0, .int .u64 0, .int .i64 0]] := by
  refine ⟨⟨(fun e => by cases e), fun _ => trivial⟩, rfl, ?_⟩
  exact .cons (.inr (.inl rfl)) (.cons (.inl rfl) (.cons (.inr (.inl rfl)) (.cons (.inl rfl) .nil)))
noncomputable def f53n (v : V53) : Tr (Fin th.R) := .need (pre53 v) (.leaf (.tup [.ptr 3 0, .ptr 1 0, .agg [.int .u64 65536, .nils]], [.gone, .res op0.1.M, .gone, .cells 175 [.ptr 1 0, .int .u64 0, .int .i64 0]], []))
theorem s53n : Sound Try.prog th 53 (fnC d53 ofV53 f53n) := fnC_refine s53 fun v h => by
  obtain ⟨hp, _⟩ := h
  obtain ⟨a, b, c⟩ := n53 v hp
  exact ⟨a, b.symm, (qdd53 v).symm, c, by show 0 ≤ 4; decide⟩
noncomputable def nice53n : List (Nat × CF th.R) := (53, lift (fnC d53 ofV53 f53n)) :: nice57
theorem nok53n : NiceOk Try.prog th nice53n := ⟨lift_sound s53n, nok57⟩
end Go.Sx.M

