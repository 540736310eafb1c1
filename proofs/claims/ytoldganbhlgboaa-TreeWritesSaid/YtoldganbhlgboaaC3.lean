/- Contracts of the functions of this seat, each by the executor and the kernel; part 3. Their conditions stand in each. -/
import Derived.Test.YtoldganbhlgboaaC2
set_option linter.unusedVariables false
set_option linter.unusedSimpArgs false
set_option linter.unnecessarySimpa false
namespace Go.Sx.M
open Go Go.Sx Go.Proofs Go.RowKit
set_option maxRecDepth 100000
set_option maxRecDepth 100000
noncomputable def nice110n : List (Nat × CF th.R) := nice169n
theorem nok110n : NiceOk Try.prog th nice110n := nok169n
end Go.Sx.M

section
namespace Go.Sx.M
open Go Go.Sx Go.Proofs Go.RowKit
def ls (F : Nat → Int) (n:Nat) : List Int := (List.range n).map F
theorem ls_len (F : Nat → Int) (n:Nat) : (ls F n).length = n := by simp [ls]
theorem ls_push (F : Nat → Int) (n:Nat) (x:Int) : ls (fun j => cnd (Nat.blt j n) (F j) x) (n + 1) = ls F n ++ [x] := by
  unfold ls
  rw [List.range_succ, List.map_append]
  congr 1
  · apply List.map_congr_left
    intro j hj
    rw [List.mem_range] at hj
    have : Nat.blt j n = true := by simp [hj]
    rw [this]
    rfl
  · have : Nat.blt n n = false := by
      cases hh : Nat.blt n n with
      | false => rfl
      | true => rw [bltT] at hh; omega
    show [cnd (Nat.blt n n) (F n) x] = [x]
    rw [this]
    rfl
theorem rowL {R : Type} {F : Nat → Int} {N n : Nat} {l : List Int} (h : N = n) (hl : ls F n = l) : HOw (.row 22 1 N (fun j => [.int .u64 (F j)]) : HO R) (.row 22 1 l.length (fun j => [.int .u64 (l.getD j 0)])) := by
  subst hl h
  rw [ls_len]
  refine .row fun j hj => ?_
  simp [ls, List.getD, hj]
end Go.Sx.M

end

namespace Go.Sx.M
open Go Go.Sx
def rawS (w0 w1 w2 w3:Int) : Sl := ⟨IntKind.i64.wrap (f102_1 0 4 w0), IntKind.u64.wrap (f102_1 35 27 w0 * 32), IntKind.i64.wrap (f102_1 4 6 w0), IntKind.i64.wrap (f102_1 10 3 w0), IntKind.i64.wrap (f102_1 13 6 w0), IntKind.i64.wrap (f102_1 19 16 w0), w1,
  IntKind.u64.wrap (f102_1 0 27 w2 * 32), IntKind.u64.wrap (f102_1 32 27 w2 * 32), cnd (decide (w3 ≤ 4096)) (IntKind.i64.wrap w3) 0⟩
def okW (w0 w1 w2 w3:Int) : Prop := rightS (rawS w0 w1 w2 w3) = true ∧ wd0 (rawS w0 w1 w2 w3) = w0 ∧ wd1 (rawS w0 w1 w2 w3) = w1 ∧ wd2 (rawS w0 w1 w2 w3) = w2 ∧ wd3 (rawS w0 w1 w2 w3) = w3
theorem rightS_rgt {z : Sl} (h : rightS z = true) : rgt z = true := by
  unfold rightS f34_0 at h
  unfold rgt
  cases hh : f45_1 z.k z.a z.b z.r z.g z.s z.m with
  | true => rfl
  | false => rw [hh] at h; simp [cnd] at h
theorem read_ok {w0 w1 w2 w3 : Int} (hr : rgt (rawS w0 w1 w2 w3) = true) (h0 : wd0 (rawS w0 w1 w2 w3) = w0) : f100_10 w0 w1 = 0 ∧ f100_3 w0 w1 = (rawS w0 w1 w2 w3).k ∧ f100_4 w0 w1 = (rawS w0 w1 w2 w3).a ∧ f100_5 w0 w1 = (rawS w0 w1 w2 w3).b ∧
    f100_6 w0 w1 = (rawS w0 w1 w2 w3).r ∧ f100_7 w0 w1 = (rawS w0 w1 w2 w3).g ∧ f100_8 w0 w1 = (rawS w0 w1 w2 w3).s ∧ f100_9 w0 w1 = (rawS w0 w1 w2 w3).m := by
  have hr : f45_1 (IntKind.i64.wrap (f102_1 0 4 w0)) (IntKind.u64.wrap (f102_1 35 27 w0 * 32)) (IntKind.i64.wrap (f102_1 4 6 w0)) (IntKind.i64.wrap (f102_1 10 3 w0)) (IntKind.i64.wrap (f102_1 13 6 w0)) (IntKind.i64.wrap (f102_1 19 16 w0)) w1 = true := hr
  have h0 : f164_14 (IntKind.i64.wrap (f102_1 0 4 w0)) (IntKind.u64.wrap (f102_1 35 27 w0 * 32)) (IntKind.i64.wrap (f102_1 4 6 w0)) (IntKind.i64.wrap (f102_1 10 3 w0)) (IntKind.i64.wrap (f102_1 13 6 w0)) (IntKind.i64.wrap (f102_1 19 16 w0)) w1 = w0 := h0
  have h2 := (words_at hr).2
  simp only [f100_3, f100_4, f100_5, f100_6, f100_7, f100_8, f100_9, f100_10, h2, h0]
  simp [cnd, rawS]
theorem read_bad {w0 w1 w2 w3 : Int} (h : ¬ (rgt (rawS w0 w1 w2 w3) = true ∧ wd0 (rawS w0 w1 w2 w3) = w0)) : f100_10 w0 w1 = 10 := by
  simp only [f100_10]
  cases hr : f45_1 (IntKind.i64.wrap (f102_1 0 4 w0)) (IntKind.u64.wrap (f102_1 35 27 w0 * 32)) (IntKind.i64.wrap (f102_1 4 6 w0)) (IntKind.i64.wrap (f102_1 10 3 w0)) (IntKind.i64.wrap (f102_1 13 6 w0)) (IntKind.i64.wrap (f102_1 19 16 w0)) w1 with
  | false => rw [(words_no hr).2.2]; rfl
  | true =>
    rw [(words_at hr).2]
    have : f164_14 (IntKind.i64.wrap (f102_1 0 4 w0)) (IntKind.u64.wrap (f102_1 35 27 w0 * 32)) (IntKind.i64.wrap (f102_1 4 6 w0)) (IntKind.i64.wrap (f102_1 10 3 w0)) (IntKind.i64.wrap (f102_1 13 6 w0)) (IntKind.i64.wrap (f102_1 19 16 w0)) w1 ≠ w0 := fun e => h ⟨hr, e⟩
    rw [bne_iff_ne.2 this]
    rfl
theorem ld_raw {M : Mem} {a : Int} (he : f99_0 ⟨a, M⟩ = 0) {w0 w1 w2 w3 : Int} (e0 : M.W (IntKind.u64.wrap (a + 0)) = w0) (e1 : M.W (IntKind.u64.wrap (a + 8)) = w1) (e2 : M.W (IntKind.u64.wrap (a + 16)) = w2) (e3 : M.W (IntKind.u64.wrap (a + 24)) = w3) :
    (okW w0 w1 w2 w3 → ld M a = rawS w0 w1 w2 w3 ∧ ldE M a = 0) ∧ (¬ okW w0 w1 w2 w3 → ld M a = sl0 ∧ ldE M a = 10) := by
  have q0 : f29_30 ⟨a, M⟩ = w0 := e0
  have q1 : f29_31 ⟨a, M⟩ = w1 := e1
  have q2 : f29_32 ⟨a, M⟩ = w2 := e2
  have q3 : f29_33 ⟨a, M⟩ = w3 := e3
  have r0 : f29_36 ⟨a, M⟩ = w0 := e0
  have r1 : f29_37 ⟨a, M⟩ = w1 := e1
  have r2 : f29_52 ⟨a, M⟩ = w2 := e2
  have r3 : f29_34 ⟨a, M⟩ = w3 := e3
  have hd : f29_25 ⟨a, M⟩ = false := by simp [f29_25, he]
  have c35 : f29_35 ⟨a, M⟩ = decide (w3 ≤ 4096) := by simp only [f29_35, r3]
  have d0 : f29_57 ⟨a, M⟩ = (rawS w0 w1 w2 w3).d := by simp only [f29_57, c35, r3, rawS]
  have d1 : f29_54 ⟨a, M⟩ = (rawS w0 w1 w2 w3).x := by simp only [f29_54, cnd_same, f29_53, r2, rawS]
  have d2 : f29_56 ⟨a, M⟩ = (rawS w0 w1 w2 w3).p := by simp only [f29_56, cnd_same, f29_55, r2, rawS]
  simp only [ld, ldE, f29_14, f29_15, f29_16, f29_17, f29_18, f29_19, f29_20, f29_21, f29_22, f29_23, f29_24, hd, d0, d1, d2, f29_39, f29_41, f29_43, f29_45, f29_47, f29_49, f29_51, cnd_same, f29_38, f29_40, f29_42, f29_44, f29_46, f29_48, f29_50, r0, r1, q0, q1, q2, q3]
  by_cases hg : rgt (rawS w0 w1 w2 w3) = true ∧ wd0 (rawS w0 w1 w2 w3) = w0
  · obtain ⟨g1, g2, g3, g4, g5, g6, g7, g8⟩ := read_ok hg.1 hg.2
    rw [g1, g2, g3, g4, g5, g6, g7, g8]
    unfold okW rightS wd0 wd1 wd2 wd3
    generalize rawS w0 w1 w2 w3 = z
    constructor
    · rintro ⟨k1, k2, k3, k4, k5⟩
      rw [k1, k2, k3, k4, k5]
      simp [cnd]
    · intro hn
      have hbad : cnd (cnd ((0:Int) != 0) true (!f34_0 z.k z.a z.b z.r z.g z.s z.m z.x z.p z.d)) true (!(f104_2 z.k z.a z.b z.r z.g z.s z.m z.x z.p z.d == w0 && (f104_3 z.k z.a z.b z.r z.g z.s z.m z.x z.p z.d == w1 &&
            (f104_4 z.k z.a z.b z.r z.g z.s z.m z.x z.p z.d == w2 && (f104_5 z.k z.a z.b z.r z.g z.s z.m z.x z.p z.d == w3 && true))))) = true := by
        cases hc : cnd _ true _ with
        | true => rfl
        | false =>
          refine absurd ?_ hn
          revert hc
          cases f34_0 z.k z.a z.b z.r z.g z.s z.m z.x z.p z.d <;> simp [cnd]
      rw [hbad]
      exact ⟨rfl, rfl⟩
  · have hb := read_bad hg
    rw [hb]
    constructor
    · intro hk
      exact absurd ⟨rightS_rgt hk.1, hk.2.1⟩ hg
    · intro _
      exact ⟨rfl, rfl⟩
end Go.Sx.M

namespace Go.Sx.M
open Go Go.Sx
theorem ld_bad {M : Mem} {a : Int} (he : f99_0 ⟨a, M⟩ ≠ 0) : ld M a = sl0 ∧ ldE M a = f99_0 ⟨a, M⟩ := by
  have hd : f29_25 ⟨a, M⟩ = true := by simp [f29_25, he]
  simp only [ld, ldE, f29_14, f29_15, f29_16, f29_17, f29_18, f29_19, f29_20, f29_21, f29_22, f29_23, f29_24, hd]
  exact ⟨rfl, rfl⟩
def errS (n a:Int) : Int := if a % 32 = 0 then if n ≤ a then 12 else 0 else 13
theorem errS_eq {M : Mem} {a : Int} (h : U64 a) : f99_0 ⟨a, M⟩ = errS M.size a := by
  have e : f125_0 a 5 = decide (a % 32 = 0) := by
    have := aligned_eq (a := a) (n := 5) h.1 h.2 (by omega) (by omega)
    rw [this]
    have : p26 (Int.toNat 5) = 32 := by decide +kernel
    rw [this]
    by_cases hh : a % 32 = 0 <;> simp [hh]
  have e2 : szM M = M.size := rfl
  simp only [f99_0, e, e2, errS]
  by_cases h1 : a % 32 = 0
  · by_cases h2 : M.size ≤ a <;> simp [cnd, h1, h2]
  · simp [cnd, h1]
theorem errS_ok {n a : Int} (h : errS n a = 0) : a % 32 = 0 ∧ a < n := by
  unfold errS at h
  split at h
  · split at h
    · omega
    · omega
  · omega
theorem errS_mk {n a : Int} (h1 : a % 32 = 0) (h2 : a < n) : errS n a = 0 := by
  unfold errS; rw [if_pos h1, if_neg (by omega)]
theorem wr_same {M : Mem} {a x : Int} (h : errI M.size a = 0) : (wrM M a x).W a = x := by
  show cnd (decide (errI M.size a = 0)) (upd M.W a x) M.W a = x
  rw [decide_eq_true h]; exact upd_same ..
theorem wr_other {M : Mem} {a x i : Int} (h : i ≠ a) : (wrM M a x).W i = M.W i := by
  show cnd (decide (errI M.size a = 0)) (upd M.W a x) M.W i = M.W i
  cases decide (errI M.size a = 0)
  · rfl
  · exact upd_other h
theorem four {M : Mem} {a w0 w1 w2 w3 : Int} (h0 : 0 ≤ a) (h1 : a % 32 = 0) (h2 : a < M.size) (h3 : M.size % 32 = 0) (h4 : M.size ≤ 4294967296) :
    let N := wrM (wrM (wrM (wrM M (IntKind.u64.wrap (a + 0)) w0) (IntKind.u64.wrap (a + 8)) w1) (IntKind.u64.wrap (a + 16)) w2) (IntKind.u64.wrap (a + 24)) w3
    N.W a = w0 ∧ N.W (a + 8) = w1 ∧ N.W (a + 16) = w2 ∧ N.W (a + 24) = w3 ∧ ∀ i, i ≠ a → i ≠ a + 8 → i ≠ a + 16 → i ≠ a + 24 → N.W i = M.W i := by
  intro N
  have e0 : IntKind.u64.wrap (a + 0) = a := by rw [wrap_u64_id (by omega) (by omega)]; omega
  have e8 : IntKind.u64.wrap (a + 8) = a + 8 := wrap_u64_id (by omega) (by omega)
  have e16 : IntKind.u64.wrap (a + 16) = a + 16 := wrap_u64_id (by omega) (by omega)
  have e24 : IntKind.u64.wrap (a + 24) = a + 24 := wrap_u64_id (by omega) (by omega)
  have k0 : errI M.size a = 0 := errI_ok (by omega) (by omega)
  have k8 : errI M.size (a + 8) = 0 := errI_ok (by omega) (by omega)
  have k16 : errI M.size (a + 16) = 0 := errI_ok (by omega) (by omega)
  have k24 : errI M.size (a + 24) = 0 := errI_ok (by omega) (by omega)
  have hN : N = wrM (wrM (wrM (wrM M a w0) (a + 8) w1) (a + 16) w2) (a + 24) w3 := by show wrM _ _ _ = _; rw [e0, e8, e16, e24]
  rw [hN]
  refine ⟨?_, ?_, ?_, ?_, fun i i0 i1 i2 i3 => ?_⟩
  · rw [wr_other (by omega), wr_other (by omega), wr_other (by omega)]; exact wr_same k0
  · rw [wr_other (by omega), wr_other (by omega)]; exact wr_same k8
  · rw [wr_other (by omega)]; exact wr_same k16
  · exact wr_same k24
  · rw [wr_other i3, wr_other i2, wr_other i1, wr_other i0]
end Go.Sx.M

namespace Go.Sx.M
open Go Go.Sx
theorem raw_wd {z : Sl} (h : SlR z) (hs : rightS z = true) : rawS (wd0 z) (wd1 z) (wd2 z) (wd3 z) = z := by
  obtain ⟨hr, ⟨x1, x2⟩, ⟨p1, p2⟩, d1, d2⟩ := (rightS_iff h).1 hs
  have hr2 := rgt2 h hr
  have e3 : wd3 z = z.d := by
    have : wd3 z = IntKind.u64.wrap z.d := rfl
    rw [this, wrap_u64_id (by omega) (by omega)]
  have x0 := h.x.1
  have p0 := h.p.1
  obtain ⟨x, hx⟩ : ∃ n : Nat, z.x / 32 = n := ⟨(z.x / 32).toNat, by omega⟩
  obtain ⟨q, hq⟩ : ∃ n : Nat, z.p / 32 = n := ⟨(z.p / 32).toNat, by omega⟩
  have e2 : wd2 z = ((x + q * 4294967296:Nat):Int) := by rw [wd2_eq h x1 p1, hx, hq]; simp
  obtain ⟨l1, l2⟩ := links_back (x := x) (q := q) (by omega) (by omega)
  have hr' : f45_1 z.k z.a z.b z.r z.g z.s z.m = true := hr
  obtain ⟨w1, w2⟩ := word_right h.a.1 h.a.2 hr2 hr'
  obtain ⟨hk, hb, hrr, hg, hss, hal, hmod⟩ := right_ranges h.a.1 h.a.2 hr2 hr'
  obtain ⟨m1, m2⟩ := words_at hr'
  have ha := h.a.1
  obtain ⟨g1, g2, g3, g4, g5, g6⟩ := word_get (k := z.k.toNat) (b := z.b.toNat) (r := z.r.toNat) (g := z.g.toNat) (s := z.s.toNat) (q := (z.a / 32).toNat) (by omega) (by omega) (by omega) (by omega) (by omega) (by omega)
  have c1 : IntKind.i64.wrap ((z.k.toNat:Nat):Int) = z.k := by rw [wrap_i64 (by omega) (by omega)]; omega
  have c2 : IntKind.i64.wrap ((z.b.toNat:Nat):Int) = z.b := by rw [wrap_i64 (by omega) (by omega)]; omega
  have c3 : IntKind.i64.wrap ((z.r.toNat:Nat):Int) = z.r := by rw [wrap_i64 (by omega) (by omega)]; omega
  have c4 : IntKind.i64.wrap ((z.g.toNat:Nat):Int) = z.g := by rw [wrap_i64 (by omega) (by omega)]; omega
  have c5 : IntKind.i64.wrap ((z.s.toNat:Nat):Int) = z.s := by rw [wrap_i64 (by omega) (by omega)]; omega
  have c6 : IntKind.u64.wrap ((((z.a / 32).toNat:Nat):Int) * 32) = z.a := by rw [wrap_u64_id (by omega) (by omega)]; omega
  have c7 : IntKind.u64.wrap (((x:Nat):Int) * 32) = z.x := by rw [wrap_u64_id (by omega) (by omega)]; omega
  have c8 : IntKind.u64.wrap (((q:Nat):Int) * 32) = z.p := by rw [wrap_u64_id (by omega) (by omega)]; omega
  have e0 : wd0 z = wordN z.k.toNat z.b.toNat z.r.toNat z.g.toNat z.s.toNat (z.a / 32).toNat := w1
  have e1 := wd1_eq hr
  have d3 : IntKind.i64.wrap z.d = z.d := wrap_i64 (by omega) (by omega)
  rw [e0, e1, e2, e3]
  simp only [rawS, g1, g2, g3, g4, g5, g6, l1, l2, c1, c2, c3, c4, c5, c6, c7, c8, d3, decide_eq_true d2, cnd]
theorem okW_wd {z : Sl} (h : SlR z) (hs : rightS z = true) : okW (wd0 z) (wd1 z) (wd2 z) (wd3 z) := by
  unfold okW
  rw [raw_wd h hs]
  exact ⟨hs, rfl, rfl, rfl, rfl⟩
def slOK (n a:Int) : Prop := 0 ≤ a ∧ a % 32 = 0 ∧ a < n
structure Enc (M : Mem) (σ : Int → Sl) : Prop where
  s0 : M.size % 32 = 0
  s1 : 0 < M.size
  s2 : M.size ≤ 4294967296
  ok : ∀ a, slOK M.size a → SlR (σ a) ∧ rightS (σ a) = true
  w : ∀ a, slOK M.size a → M.W a = wd0 (σ a) ∧ M.W (a + 8) = wd1 (σ a) ∧ M.W (a + 16) = wd2 (σ a) ∧ M.W (a + 24) = wd3 (σ a)
def setA (σ : Int → Sl) (a:Int) (z : Sl) : Int → Sl := fun i => if i = a then z else σ i
theorem setA_same {σ : Int → Sl} {a : Int} {z : Sl} : setA σ a z a = z := if_pos rfl
theorem setA_other {σ : Int → Sl} {a i : Int} {z : Sl} (h : i ≠ a) : setA σ a z i = σ i := if_neg h
theorem Enc.ld {M : Mem} {σ : Int → Sl} (E : Enc M σ) {a : Int} (h : slOK M.size a) : ld M a = σ a ∧ ldE M a = 0 := by
  obtain ⟨h0, h1, h2⟩ := h
  have hn := E.s2
  have e0 : IntKind.u64.wrap (a + 0) = a := by rw [wrap_u64_id (by omega) (by omega)]; omega
  have e8 : IntKind.u64.wrap (a + 8) = a + 8 := wrap_u64_id (by omega) (by omega)
  have e16 : IntKind.u64.wrap (a + 16) = a + 16 := wrap_u64_id (by omega) (by omega)
  have e24 : IntKind.u64.wrap (a + 24) = a + 24 := wrap_u64_id (by omega) (by omega)
  obtain ⟨k1, k2⟩ := E.ok a ⟨h0, h1, h2⟩
  obtain ⟨w0, w1, w2, w3⟩ := E.w a ⟨h0, h1, h2⟩
  have he : f99_0 ⟨a, M⟩ = 0 := by rw [errS_eq ⟨h0, by omega⟩]; exact errS_mk h1 h2
  obtain ⟨g1, g2⟩ := (ld_raw he (by rw [e0]; exact w0) (by rw [e8]; exact w1) (by rw [e16]; exact w2) (by rw [e24]; exact w3)).1 (okW_wd k1 k2)
  rw [raw_wd k1 k2] at g1
  exact ⟨g1, g2⟩
theorem ld_not {M : Mem} {a : Int} (hu : U64 a) (h : ¬ slOK M.size a) : ld M a = sl0 ∧ ldE M a = errS M.size a ∧ errS M.size a ≠ 0 := by
  have he : f99_0 ⟨a, M⟩ = errS M.size a := errS_eq hu
  have hne : errS M.size a ≠ 0 := by
    intro e
    obtain ⟨a1, a2⟩ := errS_ok e
    exact h ⟨hu.1, a1, a2⟩
  obtain ⟨b1, b2⟩ := ld_bad (M := M) (a := a) (by rw [he]; exact hne)
  exact ⟨b1, by rw [b2, he], hne⟩
theorem stE_any {M : Mem} {a : Int} {z : Sl} : stE M a z = cnd (f99_0 ⟨a, M⟩ != 0) (f99_0 ⟨a, M⟩) (cnd (!rightS z) 10 0) := rfl
theorem Enc.st {M : Mem} {σ : Int → Sl} (E : Enc M σ) {a : Int} {z : Sl} (h : slOK M.size a) (hz : SlR z) (hr : rightS z = true) : Enc (stM M a z) (setA σ a z) ∧ stE M a z = 0 ∧ (stM M a z).size = M.size := by
  obtain ⟨h0, h1, h2⟩ := h
  have hn := E.s2
  have he : f99_0 ⟨a, M⟩ = 0 := by rw [errS_eq ⟨h0, by omega⟩]; exact errS_mk h1 h2
  have hr' : f34_0 z.k z.a z.b z.r z.g z.s z.m z.x z.p z.d = true := hr
  have k10 : f91_10 ⟨a, z.k, z.a, z.b, z.r, z.g, z.s, z.m, z.x, z.p, z.d, M⟩ = false := by simp [f91_10, he]
  have k11 : f91_11 ⟨a, z.k, z.a, z.b, z.r, z.g, z.s, z.m, z.x, z.p, z.d, M⟩ = false := by simp [f91_11, hr']
  have hN : stM M a z = wrM (wrM (wrM (wrM M (IntKind.u64.wrap (a + 0)) (wd0 z)) (IntKind.u64.wrap (a + 8)) (wd1 z)) (IntKind.u64.wrap (a + 16)) (wd2 z)) (IntKind.u64.wrap (a + 24)) (wd3 z) := by
    show mrgM (f91_10 _) M (mrgM (f91_11 _) M _) = _
    rw [k10, k11]
    rfl
  obtain ⟨f0, f8, f16, f24, fo⟩ := four (M := M) (a := a) (w0 := wd0 z) (w1 := wd1 z) (w2 := wd2 z) (w3 := wd3 z) h0 h1 h2 E.s0 hn
  rw [← hN] at f0 f8 f16 f24 fo
  have hsz : (stM M a z).size = M.size := by rw [hN]; rfl
  refine ⟨⟨by rw [hsz]; exact E.s0, by rw [hsz]; exact E.s1, by rw [hsz]; exact hn, ?_, ?_⟩, ?_, hsz⟩
  · intro i hi
    rw [hsz] at hi
    by_cases e : i = a
    · subst e; rw [setA_same]; exact ⟨hz, hr⟩
    · rw [setA_other e]; exact E.ok i hi
  · intro i hi
    rw [hsz] at hi
    by_cases e : i = a
    · subst e; rw [setA_same]; exact ⟨f0, f8, f16, f24⟩
    · rw [setA_other e]
      obtain ⟨i0, i1, i2⟩ := hi
      obtain ⟨w0, w1, w2, w3⟩ := E.w i ⟨i0, i1, i2⟩
      refine ⟨?_, ?_, ?_, ?_⟩
      · rw [fo _ (by omega) (by omega) (by omega) (by omega)]; exact w0
      · rw [fo _ (by omega) (by omega) (by omega) (by omega)]; exact w1
      · rw [fo _ (by omega) (by omega) (by omega) (by omega)]; exact w2
      · rw [fo _ (by omega) (by omega) (by omega) (by omega)]; exact w3
  · rw [stE_any, he, hr]; rfl
theorem sl0_right : rightS sl0 = true := by decide +kernel
theorem Enc.new {n : Int} (h0 : n % 32 = 0) (h1 : 0 < n) (h2 : n ≤ 4294967296) : Enc (newM n) (fun _ => sl0) := by
  have e0 : wd0 sl0 = 0 := by decide +kernel
  have e1 : wd1 sl0 = 0 := by decide +kernel
  have e2 : wd2 sl0 = 0 := by decide +kernel
  have e3 : wd3 sl0 = 0 := by decide +kernel
  refine ⟨h0, h1, h2, fun a _ => ⟨sl0_R, sl0_right⟩, fun a _ => ?_⟩
  rw [e0, e1, e2, e3]
  exact ⟨rfl, rfl, rfl, rfl⟩
def lnk (y:Int) : Prop := 0 ≤ y ∧ y < 4294967296 ∧ y % 32 = 0
theorem right_x {z : Sl} (h : SlR z) (hr : rightS z = true) {y : Int} (hy : lnk y) : SlR { z with x := y } ∧ rightS { z with x := y } = true := by
  have h2 : SlR { z with x := y } := h.setX ⟨hy.1, by have := hy.2.1; omega⟩
  obtain ⟨q1, q2, q3, q4⟩ := (rightS_iff h).1 hr
  exact ⟨h2, (rightS_iff h2).2 ⟨q1, ⟨hy.2.1, hy.2.2⟩, q3, q4⟩⟩
theorem right_p {z : Sl} (h : SlR z) (hr : rightS z = true) {y : Int} (hy : lnk y) : SlR { z with p := y } ∧ rightS { z with p := y } = true := by
  have h2 : SlR { z with p := y } := h.setP ⟨hy.1, by have := hy.2.1; omega⟩
  obtain ⟨q1, q2, q3, q4⟩ := (rightS_iff h).1 hr
  exact ⟨h2, (rightS_iff h2).2 ⟨q1, q2, ⟨hy.2.1, hy.2.2⟩, q4⟩⟩
def xA (σ : Int → Sl) (a y:Int) : Int → Sl := if a = 0 then σ else setA σ a { σ a with x := y }
def pA (σ : Int → Sl) (a y:Int) : Int → Sl := if a = 0 then σ else setA σ a { σ a with p := y }
def tieA (σ : Int → Sl) (a b:Int) : Int → Sl := pA (xA σ a b) b a
theorem mrgM_f (A B : Mem) : mrgM false A B = B := rfl
theorem mrgM_t (A B : Mem) : mrgM true A B = A := rfl
theorem Enc.tX {M : Mem} {σ : Int → Sl} (E : Enc M σ) {a y : Int} (h : a = 0 ∨ slOK M.size a) (hy : lnk y) : Enc (tX M a y) (xA σ a y) ∧ (tX M a y).size = M.size := by
  by_cases e : a = 0
  · subst e
    exact ⟨E, rfl⟩
  · have hb : (a == 0) = false := beq_eq_false_iff_ne.2 e
    have h := h.resolve_left e
    obtain ⟨k1, k2⟩ := E.ok a h
    obtain ⟨r1, r2⟩ := right_x k1 k2 hy
    have hl := (E.ld h).1
    unfold Go.Sx.M.tX xA
    rw [hb, mrgM_f, if_neg e, hl]
    obtain ⟨s1, _, s3⟩ := E.st h r1 r2
    exact ⟨s1, s3⟩
theorem Enc.tP {M : Mem} {σ : Int → Sl} (E : Enc M σ) {a y : Int} (h : a = 0 ∨ slOK M.size a) (hy : lnk y) : Enc (tP M a y) (pA σ a y) ∧ (tP M a y).size = M.size := by
  by_cases e : a = 0
  · subst e
    exact ⟨E, rfl⟩
  · have hb : (a == 0) = false := beq_eq_false_iff_ne.2 e
    have h := h.resolve_left e
    obtain ⟨k1, k2⟩ := E.ok a h
    obtain ⟨r1, r2⟩ := right_p k1 k2 hy
    have hl := (E.ld h).1
    unfold Go.Sx.M.tP pA
    rw [hb, mrgM_f, if_neg e, hl]
    obtain ⟨s1, _, s3⟩ := E.st h r1 r2
    exact ⟨s1, s3⟩
theorem slOK.lnk {n a : Int} (h : slOK n a) (hn : n ≤ 4294967296) : lnk a := ⟨h.1, by have := h.2.2; omega, h.2.1⟩
theorem Enc.tie {M : Mem} {σ : Int → Sl} (E : Enc M σ) {a b : Int} (ha : a = 0 ∨ slOK M.size a) (hb : b = 0 ∨ slOK M.size b) : Enc (tieM M a b) (tieA σ a b) ∧ (tieM M a b).size = M.size := by
  have la : lnk a := ha.elim (fun e => by subst e; exact ⟨by omega, by omega, rfl⟩) fun h => h.lnk E.s2
  have lb : lnk b := hb.elim (fun e => by subst e; exact ⟨by omega, by omega, rfl⟩) fun h => h.lnk E.s2
  obtain ⟨E1, z1⟩ := E.tX ha lb
  obtain ⟨E2, z2⟩ := E1.tP (a := b) (y := a) (by rw [z1]; exact hb) la
  exact ⟨E2, z2.trans z1⟩
end Go.Sx.M

namespace Go.Sx.M
open Go Go.Sx
/-! Nodes in a row, each one's links in its slot. -/
def hdA : List Nd → Int → Int
  | [], n => n
  | x :: _, _ => x.t
def lsA : List Nd → Int → Int
  | [], p => p
  | x :: l, _ => lsA l x.t
def sN (x : Nd) (nx pv:Int) : Sl := ⟨x.k, x.a, x.b, x.r, x.g, x.s, x.m, nx, pv, x.d⟩
def DL (σ : Int → Sl) : Int → List Nd → Int → Prop
  | _, [], _ => True
  | p, x :: l, n => σ x.t = sN x (hdA l n) p ∧ DL σ x.t l n
theorem hdA_app (l1 l2 : List Nd) (n:Int) : hdA (l1 ++ l2) n = hdA l1 (hdA l2 n) := by cases l1 <;> rfl
theorem lsA_app : ∀ (l1 l2 : List Nd) (p:Int), lsA (l1 ++ l2) p = lsA l2 (lsA l1 p)
  | [], _, _ => rfl
  | x :: l1, l2, p => lsA_app l1 l2 x.t
theorem DL_app {σ : Int → Sl} : ∀ {l1 l2 : List Nd} {p n : Int}, DL σ p (l1 ++ l2) n ↔ DL σ p l1 (hdA l2 n) ∧ DL σ (lsA l1 p) l2 n
  | [], l2, p, n => by simp [DL, lsA]
  | x :: l1, l2, p, n => by
    simp only [List.cons_append, DL, lsA]
    rw [DL_app, hdA_app]
    constructor
    · rintro ⟨a, b, c⟩; exact ⟨⟨a, b⟩, c⟩
    · rintro ⟨⟨a, b⟩, c⟩; exact ⟨a, b, c⟩
theorem DL_congr {σ τ : Int → Sl} : ∀ {l : List Nd} {p n : Int}, (∀ x, x ∈ l → τ x.t = σ x.t) → DL σ p l n → DL τ p l n
  | [], _, _, _, _ => trivial
  | x :: l, p, n, h, ⟨a, b⟩ => ⟨by rw [h x List.mem_cons_self]; exact a, DL_congr (fun y hy => h y (List.mem_cons_of_mem _ hy)) b⟩
def tA (l : List Nd) : List Int := l.map Nd.t
theorem mem_tA {l : List Nd} {a : Int} : a ∈ tA l ↔ ∃ x, x ∈ l ∧ x.t = a := by simp [tA]
theorem lsA_mem : ∀ {l : List Nd} {p : Int}, l ≠ [] → lsA l p ∈ tA l
  | [], _, h => absurd rfl h
  | [x], _, _ => by simp [lsA, tA]
  | x :: y :: l, p, _ => List.mem_cons_of_mem _ (lsA_mem (l := y :: l) (p := x.t) (by simp))
theorem hdA_mem {l : List Nd} {n : Int} (h : l ≠ []) : hdA l n ∈ tA l := by
  cases l with
  | nil => exact absurd rfl h
  | cons x l => simp [hdA, tA]
theorem lsA_p {l : List Nd} {p q : Int} (h : l ≠ []) : lsA l p = lsA l q := by
  cases l with
  | nil => exact absurd rfl h
  | cons x l => rfl
theorem DL_last {σ : Int → Sl} {n' : Int} : ∀ {l : List Nd} {p n : Int}, l ≠ [] → (tA l).Nodup → DL σ p l n → DL (setA σ (lsA l 0) { σ (lsA l 0) with x := n' }) p l n'
  | [], _, _, h, _, _ => absurd rfl h
  | [x], p, n, _, _, ⟨a, _⟩ => by
    refine ⟨?_, trivial⟩
    show setA σ x.t { σ x.t with x := n' } x.t = _
    rw [setA_same, a]
    rfl
  | x :: y :: l, p, n, _, hd, ⟨a, b⟩ => by
    have hd' : x.t ∉ tA (y :: l) ∧ (tA (y :: l)).Nodup := List.nodup_cons.1 hd
    have hm : lsA (y :: l) 0 ∈ tA (y :: l) := lsA_mem (by simp)
    have hne : x.t ≠ lsA (y :: l) 0 := fun e => hd'.1 (by rw [e]; exact hm)
    refine ⟨?_, DL_last (l := y :: l) (by simp) hd'.2 b⟩
    show setA σ (lsA (y :: l) 0) _ x.t = _
    rw [setA_other hne]
    exact a
theorem DL_first {σ : Int → Sl} {p' : Int} {x : Nd} {l : List Nd} {p n : Int} (hd : (tA (x :: l)).Nodup) (h : DL σ p (x :: l) n) : DL (setA σ x.t { σ x.t with p := p' }) p' (x :: l) n := by
  obtain ⟨a, b⟩ := h
  have hd' : x.t ∉ tA l ∧ (tA l).Nodup := List.nodup_cons.1 hd
  refine ⟨?_, DL_congr (fun y hy => setA_other fun e => hd'.1 (by rw [← e]; exact mem_tA.2 ⟨y, hy, rfl⟩)) b⟩
  rw [setA_same, a]
  rfl
theorem xA_other {σ : Int → Sl} {a y c : Int} (h : c ≠ a ∨ a = 0) : xA σ a y c = σ c := by
  unfold xA
  split
  · rfl
  · exact setA_other (h.elim id fun e => absurd e (by assumption))
theorem pA_other {σ : Int → Sl} {a y c : Int} (h : c ≠ a ∨ a = 0) : pA σ a y c = σ c := by
  unfold pA
  split
  · rfl
  · exact setA_other (h.elim id fun e => absurd e (by assumption))
theorem tieA_other {σ : Int → Sl} {a b c : Int} (h1 : c ≠ a ∨ a = 0) (h2 : c ≠ b ∨ b = 0) : tieA σ a b c = σ c := by
  unfold tieA
  rw [pA_other h2, xA_other h1]
theorem DL_out {σ : Int → Sl} {a b : Int} {l : List Nd} {p n : Int} (h1 : a ∉ tA l) (h2 : b ∉ tA l) (h : DL σ p l n) : DL (tieA σ a b) p l n :=
  DL_congr (fun x hx => tieA_other (.inl fun e => h1 (by rw [← e]; exact mem_tA.2 ⟨x, hx, rfl⟩)) (.inl fun e => h2 (by rw [← e]; exact mem_tA.2 ⟨x, hx, rfl⟩))) h
theorem DL_left {σ : Int → Sl} {a b : Int} {l : List Nd} {p n : Int} (hne : l ≠ []) (ha : lsA l 0 = a) (h0 : (0:Int) ∉ tA l) (hd : (tA l).Nodup) (h2 : b ∉ tA l) (h : DL σ p l n) : DL (tieA σ a b) p l b := by
  have hm : a ∈ tA l := by rw [← ha]; exact lsA_mem hne
  have ha0 : a ≠ 0 := fun e => h0 (by rw [← e]; exact hm)
  refine DL_congr (σ := xA σ a b) (fun x hx => pA_other (.inl fun e => h2 (by rw [← e]; exact mem_tA.2 ⟨x, hx, rfl⟩))) ?_
  unfold xA
  rw [if_neg ha0, ← ha]
  exact DL_last hne hd h
theorem DL_right {σ : Int → Sl} {a b : Int} {l : List Nd} {p n : Int} (hne : l ≠ []) (hb : hdA l 0 = b) (h0 : (0:Int) ∉ tA l) (hd : (tA l).Nodup) (h1 : a ∉ tA l) (h : DL σ p l n) : DL (tieA σ a b) a l n := by
  cases l with
  | nil => exact absurd rfl hne
  | cons x l =>
    have hb : x.t = b := hb
    subst hb
    have hb0 : x.t ≠ 0 := fun e => h0 (by rw [← e]; simp [tA])
    unfold tieA pA
    rw [if_neg hb0]
    refine DL_first hd (p := p) (DL_congr (fun y hy => xA_other (.inl fun e => h1 (by rw [← e]; exact mem_tA.2 ⟨y, hy, rfl⟩))) h)
theorem tA_app (l1 l2 : List Nd) : tA (l1 ++ l2) = tA l1 ++ tA l2 := List.map_append ..
theorem join2 {σ : Int → Sl} {l1 l2 : List Nd} {n p m : Int} (hd : (tA (l1 ++ l2)).Nodup) (h0 : (0:Int) ∉ tA (l1 ++ l2)) (hm : l2 = [] → m = 0) (h1 : DL σ 0 l1 n) (h2 : DL σ p l2 m) : DL (tieA σ (lsA l1 0) (hdA l2 0)) 0 (l1 ++ l2) m := by
  rw [tA_app] at hd h0
  obtain ⟨d1, d2, d3⟩ := List.nodup_append.1 hd
  have z1 : (0:Int) ∉ tA l1 := fun h => h0 (List.mem_append_left _ h)
  have z2 : (0:Int) ∉ tA l2 := fun h => h0 (List.mem_append_right _ h)
  rw [DL_app]
  by_cases e1 : l1 = []
  · subst e1
    refine ⟨trivial, ?_⟩
    by_cases e2 : l2 = []
    · subst e2; exact trivial
    · exact DL_right e2 rfl z2 d2 z2 h2
  · have m1 : lsA l1 0 ∈ tA l1 := lsA_mem e1
    by_cases e2 : l2 = []
    · subst e2
      rw [hm rfl]
      exact ⟨DL_left e1 rfl z1 d1 z1 h1, trivial⟩
    · have m2 : hdA l2 0 ∈ tA l2 := hdA_mem e2
      have e3 : hdA l2 m = hdA l2 0 := by cases l2 with
        | nil => exact absurd rfl e2
        | cons _ _ => rfl
      rw [e3]
      exact ⟨DL_left e1 rfl z1 d1 (fun h => d3 _ h _ m2 rfl) h1, DL_right e2 rfl z2 d2 (fun h => d3 _ m1 _ h rfl) h2⟩
theorem join3 {σ : Int → Sl} {l1 l2 : List Nd} {x : Nd} {n1 p n p2 : Int} (hd : (tA (l1 ++ x :: l2)).Nodup) (h0 : (0:Int) ∉ tA (l1 ++ x :: l2)) (h1 : DL σ 0 l1 n1) (hx : DL σ p [x] n) (h2 : DL σ p2 l2 0) :
    DL (tieA (tieA σ (lsA l1 0) x.t) x.t (hdA l2 0)) 0 (l1 ++ x :: l2) 0 := by
  have hd2 : (tA ((l1 ++ [x]) ++ l2)).Nodup := by simpa using hd
  have h02 : (0:Int) ∉ tA ((l1 ++ [x]) ++ l2) := by simpa using h0
  have hd3 := hd2
  have h03 := h02
  rw [tA_app] at hd3 h03
  obtain ⟨d1, d2, d3⟩ := List.nodup_append.1 hd3
  have z1 : (0:Int) ∉ tA (l1 ++ [x]) := fun h => h03 (List.mem_append_left _ h)
  have z2 : (0:Int) ∉ tA l2 := fun h => h03 (List.mem_append_right _ h)
  have mx : x.t ∈ tA (l1 ++ [x]) := by rw [tA_app]; exact List.mem_append_right _ (by simp [tA])
  have k1 : DL (tieA σ (lsA l1 0) x.t) 0 (l1 ++ [x]) n := join2 (l2 := [x]) d1 z1 (fun e => by cases e) h1 hx
  have ma : lsA l1 0 ∉ tA l2 := by
    by_cases e1 : l1 = []
    · subst e1; exact z2
    · intro h
      exact d3 _ (by rw [tA_app]; exact List.mem_append_left _ (lsA_mem e1)) _ h rfl
  have k2 : DL (tieA σ (lsA l1 0) x.t) p2 l2 0 := DL_out ma (fun h => d3 _ mx _ h rfl) h2
  have k3 := join2 hd2 h02 (fun _ => rfl) k1 k2
  have el : lsA (l1 ++ [x]) 0 = x.t := by rw [lsA_app]; rfl
  rw [el] at k3
  simpa using k3
end Go.Sx.M

namespace Go.Sx.M
open Go Go.Sx
theorem right_eqS {z : Sl} (h : SlR z) : f45_1 z.k z.a z.b z.r z.g z.s z.m = f50_2 z.k z.a z.b z.r z.g z.s z.m := right_eq h.a.1 h.a.2 h.b h.m.1 h.m.2 h.g.2
structure NdOk (n:Int) (x : Nd) : Prop where
  at_ : slOK n x.t
  nz : x.t ≠ 0
  k : x.k ≠ 0
  R : SlR (slN x)
  r : rgt (slN x) = true
  d0 : 0 ≤ x.d
  d1 : x.d ≤ 4096
theorem sN_ok {n : Int} {x : Nd} (h : NdOk n x) {a b : Int} (ha : lnk a) (hb : lnk b) : SlR (sN x a b) ∧ rightS (sN x a b) = true := by
  have h2 : SlR (sN x a b) := ⟨h.R.k, h.R.a, h.R.b, h.R.r, h.R.g, h.R.s, h.R.m, ⟨ha.1, by have := ha.2.1; show a < 18446744073709551616; omega⟩, ⟨hb.1, by have := hb.2.1; show b < 18446744073709551616; omega⟩, ⟨by have := h.d0; show -9223372036854775808 ≤ x.d; omega, by have := h.d1; show x.d < 9223372036854775808; omega⟩⟩
  exact ⟨h2, (rightS_iff h2).2 ⟨h.r, ⟨ha.2.1, ha.2.2⟩, ⟨hb.2.1, hb.2.2⟩, h.d0, h.d1⟩⟩
structure RepS (t : TS) (l : List Nd) (σ : Int → Sl) : Prop where
  E : Enc t.M σ
  f : t.f = hdA l 0
  c : t.c = l.length
  nd : (tA l).Nodup
  ok : ∀ x, x ∈ l → NdOk t.M.size x
  dl : DL σ 0 l 0
  out : ∀ a, a ∉ tA l → slOK t.M.size a → σ a = sl0
theorem RepS.z0 {t : TS} {l : List Nd} {σ : Int → Sl} (h : RepS t l σ) : (0:Int) ∉ tA l := fun e => by
  obtain ⟨x, hx, hz⟩ := mem_tA.1 e
  exact (h.ok x hx).nz hz
theorem DL_mem {σ : Int → Sl} : ∀ {l : List Nd} {p n : Int} {x : Nd}, DL σ p l n → x ∈ l → ∃ a b, σ x.t = sN x a b
  | [], _, _, _, _, h => by cases h
  | y :: l, p, n, x, ⟨a, b⟩, h => by
    rcases List.mem_cons.1 h with rfl | h
    · exact ⟨_, _, a⟩
    · exact DL_mem b h
theorem fnd_spec {l : List Nd} (hd : (tA l).Nodup) (a:Int) : (∃ i : Nat, i < l.length ∧ (gN l i).t = a ∧ fnd l a = i ∧ gN l i ∈ l ∧ l = l.take i ++ gN l i :: l.drop (i + 1)) ∨ (a ∉ tA l ∧ fnd l a = -1) := by
  have e := nds_gN l
  rcases fnd_cases (gN l) l.length a with ⟨i, h1, h2, _, h4⟩ | ⟨h1, h2⟩
  · rw [e] at h4
    have hg : gN l i = l[i] := by simp [gN, List.getD, List.getElem?_eq_getElem h1]
    refine .inl ⟨i, h1, h2, h4, by rw [hg]; exact List.getElem_mem h1, ?_⟩
    rw [hg, List.getElem_cons_drop h1, List.take_append_drop]
  · rw [e] at h2
    refine .inr ⟨fun hm => ?_, h2⟩
    obtain ⟨x, hx, rfl⟩ := mem_tA.1 hm
    obtain ⟨i, hi, rfl⟩ := List.getElem_of_mem hx
    exact h1 i hi (by simp [gN, List.getD, List.getElem?_eq_getElem hi])
theorem mayT_eq {n a : Int} (h : 0 ≤ a) : mayT n a = errS n a := by
  unfold mayT errS
  rw [Int.tmod_eq_emod_of_nonneg h]
  by_cases h1 : a % 32 = 0
  · by_cases h2 : n ≤ a <;> simp [cnd_eq, h1, h2]
  · simp [cnd_eq, h1]
theorem mayT_ok {n a : Int} (h : 0 ≤ a) : mayT n a = 0 ↔ slOK n a := by
  rw [mayT_eq h]
  exact ⟨fun e => ⟨h, (errS_ok e).1, (errS_ok e).2⟩, fun e => errS_mk e.2.1 e.2.2⟩
theorem RepS.ld {t : TS} {l : List Nd} {σ : Int → Sl} (h : RepS t l σ) {a : Int} (hu : U64 a) :
    (slOK t.M.size a ∧ mayT t.M.size a = 0 ∧ ldE t.M a = 0 ∧ ld t.M a = σ a ∧ ((∃ i : Nat, i < l.length ∧ (gN l i).t = a ∧ fnd l a = i ∧ gN l i ∈ l ∧ l = l.take i ++ gN l i :: l.drop (i + 1)) ∨ (a ∉ tA l ∧ fnd l a = -1 ∧ σ a = sl0))) ∨
      (¬ slOK t.M.size a ∧ mayT t.M.size a ≠ 0 ∧ ldE t.M a = mayT t.M.size a ∧ ld t.M a = sl0 ∧ fnd l a = -1 ∧ a ∉ tA l) := by
  by_cases hs : slOK t.M.size a
  · obtain ⟨h1, h2⟩ := h.E.ld hs
    refine .inl ⟨hs, (mayT_ok hu.1).2 hs, h2, h1, ?_⟩
    rcases fnd_spec h.nd a with q | ⟨q1, q2⟩
    · exact .inl q
    · exact .inr ⟨q1, q2, h.out a q1 hs⟩
  · obtain ⟨h1, h2, h3⟩ := ld_not (M := t.M) hu hs
    have hm : a ∉ tA l := fun e => by
      obtain ⟨x, hx, rfl⟩ := mem_tA.1 e
      exact hs (h.ok x hx).at_
    refine .inr ⟨hs, fun e => hs ((mayT_ok hu.1).1 e), by rw [h2, mayT_eq hu.1], h1, ?_, hm⟩
    rcases fnd_spec h.nd a with ⟨i, _, q2, _, q4, _⟩ | ⟨_, q2⟩
    · exact absurd (mem_tA.2 ⟨_, q4, q2⟩) hm
    · exact q2
theorem RepS.hdE {t : TS} {l : List Nd} {σ : Int → Sl} (h : RepS t l σ) {a : Int} (hu : U64 a) : hdE t.M a = hdT t.M.size l a := by
  unfold Go.Sx.M.hdE hdT
  rcases h.ld hu with ⟨_, m0, e0, el, ⟨i, _, ht, hf, hm, _⟩ | ⟨_, hf, hz⟩⟩ | ⟨_, m0, e0, el, hf, _⟩
  · obtain ⟨p, q, hs⟩ := DL_mem h.dl hm
    rw [ht] at hs
    have hk := (h.ok _ hm).k
    have hi1 : ¬ ((i:Int) < 0) := by omega
    have hi2 : (0:Int) ≤ i := by omega
    rw [e0, m0, el, hs, hf]
    simp [cnd_eq, sN, hk, hi1]
  · rw [e0, m0, el, hz, hf]
    simp [cnd_eq, sl0]
  · rw [e0, hf]
    simp [cnd_eq, m0]
theorem RepS.frE {t : TS} {l : List Nd} {σ : Int → Sl} (h : RepS t l σ) {a : Int} (hu : U64 a) : frE t.M a = frT t.M.size l a := by
  unfold Go.Sx.M.frE frT
  rcases h.ld hu with ⟨_, m0, e0, el, ⟨i, _, ht, hf, hm, _⟩ | ⟨_, hf, hz⟩⟩ | ⟨_, m0, e0, el, hf, _⟩
  · obtain ⟨p, q, hs⟩ := DL_mem h.dl hm
    rw [ht] at hs
    have hk := (h.ok _ hm).k
    have hi1 : ¬ ((i:Int) < 0) := by omega
    have hi2 : (0:Int) ≤ i := by omega
    rw [e0, m0, el, hs, hf]
    by_cases ha : a = 0 <;> simp [cnd_eq, sN, hk, ha, hi2]
  · rw [e0, m0, el, hz, hf]
    by_cases ha : a = 0 <;> simp [cnd_eq, sl0, ha]
  · rw [e0, hf]
    simp [cnd_eq, m0]
theorem mayC_eq {x : Nd} (h : SlR (slN x)) : mayC (slN x) = cnd (badC x) 10 0 := by
  have e := right_eqS h
  have e : f45_1 x.k x.a x.b x.r x.g x.s x.m = f50_2 x.k x.a x.b x.r x.g x.s x.m := e
  simp only [mayC, slN, f178_0, badC, e]
theorem RepS.ftE {t : TS} {l : List Nd} {σ : Int → Sl} (h : RepS t l σ) {x : Nd} (hu : U64 x.t) (hx : SlR (slN x)) : ftE t.M t.c x.t (slN x) = ftT t.M.size l x := by
  unfold Go.Sx.M.ftE ftT
  rw [h.frE hu, mayC_eq hx, h.c]
  cases badC x <;> rfl
end Go.Sx.M

namespace Go.Sx.M
open Go Go.Sx
theorem ends_ne {l : List Nd} {a : Int} (h : a ∉ tA l) : (a ≠ lsA l 0 ∨ lsA l 0 = 0) ∧ (a ≠ hdA l 0 ∨ hdA l 0 = 0) := by
  by_cases e : l = []
  · subst e; exact ⟨.inr rfl, .inr rfl⟩
  · exact ⟨.inl fun k => h (by rw [k]; exact lsA_mem e), .inl fun k => h (by rw [k]; exact hdA_mem e)⟩
theorem lsA_ok {n : Int} {l : List Nd} (h : ∀ x, x ∈ l → NdOk n x) : lsA l 0 = 0 ∨ slOK n (lsA l 0) := by
  by_cases e : l = []
  · subst e; exact .inl rfl
  · obtain ⟨x, hx, ht⟩ := mem_tA.1 (lsA_mem (p := 0) e)
    rw [← ht]
    exact .inr (h x hx).at_
theorem hdA_ok {n : Int} {l : List Nd} (h : ∀ x, x ∈ l → NdOk n x) : hdA l 0 = 0 ∨ slOK n (hdA l 0) := by
  by_cases e : l = []
  · subst e; exact .inl rfl
  · obtain ⟨x, hx, ht⟩ := mem_tA.1 (hdA_mem (n := 0) e)
    rw [← ht]
    exact .inr (h x hx).at_
theorem lnk0 : lnk 0 := ⟨by omega, by omega, rfl⟩
theorem lsA_nz {n : Int} {l : List Nd} (h : ∀ x, x ∈ l → NdOk n x) (e : l ≠ []) : lsA l 0 ≠ 0 := by
  obtain ⟨x, hx, ht⟩ := mem_tA.1 (lsA_mem (p := 0) e)
  rw [← ht]
  exact (h x hx).nz
theorem tieF_hd {n : Int} {l1 l2 : List Nd} {f : Int} (h : ∀ x, x ∈ l1 → NdOk n x) (hf : l1 ≠ [] → f = hdA l1 0) : tieF f (lsA l1 0) (hdA l2 0) = hdA (l1 ++ l2) 0 := by
  unfold tieF
  by_cases e : l1 = []
  · subst e; rfl
  · rw [beq_eq_false_iff_ne.2 (lsA_nz h e)]
    show f = _
    rw [hf e, hdA_app]
    cases l1 with
    | nil => exact absurd rfl e
    | cons _ _ => rfl
theorem RepS.ins {t : TS} {l1 l2 : List Nd} {σ : Int → Sl} (h : RepS t (l1 ++ l2) σ) {x : Nd} (hx : NdOk t.M.size x) (hn : x.t ∉ tA (l1 ++ l2)) (hl : (l1 ++ l2).length ≤ 100000) :
    ∃ τ, RepS ⟨insM t.M (lsA l1 0) (hdA l2 0) x.t (slN x) x.d, insF t.f (lsA l1 0) (hdA l2 0) x.t, IntKind.i64.wrap (t.c + 1)⟩ (l1 ++ x :: l2) τ := by
  have ok1 : ∀ y, y ∈ l1 → NdOk t.M.size y := fun y hy => h.ok y (List.mem_append_left _ hy)
  have ok2 : ∀ y, y ∈ l2 → NdOk t.M.size y := fun y hy => h.ok y (List.mem_append_right _ hy)
  obtain ⟨r1, r2⟩ := sN_ok hx lnk0 lnk0
  obtain ⟨E1, _, z1⟩ := h.E.st hx.at_ r1 r2
  obtain ⟨E2, z2⟩ := E1.tie (a := lsA l1 0) (b := x.t) (by rw [z1]; exact lsA_ok ok1) (by rw [z1]; exact .inr hx.at_)
  obtain ⟨E3, z3⟩ := E2.tie (a := x.t) (b := hdA l2 0) (by rw [z2, z1]; exact .inr hx.at_) (by rw [z2, z1]; exact hdA_ok ok2)
  have hsz : (insM t.M (lsA l1 0) (hdA l2 0) x.t (slN x) x.d).size = t.M.size := ins_size _ _ _ _ _ _
  rw [tA_app] at hn
  have n1 : x.t ∉ tA l1 := fun e => hn (List.mem_append_left _ e)
  have n2 : x.t ∉ tA l2 := fun e => hn (List.mem_append_right _ e)
  obtain ⟨q1, q2⟩ := DL_app.1 h.dl
  have nd := h.nd
  rw [tA_app] at nd
  obtain ⟨d1, d2, d3⟩ := List.nodup_append.1 nd
  have hd : (tA (l1 ++ x :: l2)).Nodup := by
    rw [tA_app]
    refine List.nodup_append.2 ⟨d1, List.nodup_cons.2 ⟨n2, d2⟩, ?_⟩
    intro a ha b hb e
    rcases List.mem_cons.1 hb with rfl | hb
    · exact n1 (by rw [← e]; exact ha)
    · exact d3 a ha b hb e
  have z0 := h.z0
  rw [tA_app] at z0
  have h0 : (0:Int) ∉ tA (l1 ++ x :: l2) := by
    rw [tA_app]
    intro e
    rcases List.mem_append.1 e with e | e
    · exact z0 (List.mem_append_left _ e)
    · rcases List.mem_cons.1 e with e | e
      · exact hx.nz e.symm
      · exact z0 (List.mem_append_right _ e)
  refine ⟨_, E3, ?_, ?_, hd, ?_, ?_, ?_⟩
  · show tieF (tieF t.f (lsA l1 0) x.t) x.t (hdA l2 0) = _
    have e1 : tieF t.f (lsA l1 0) x.t = hdA (l1 ++ [x]) 0 := tieF_hd (l2 := [x]) ok1 fun e => by
      rw [h.f, hdA_app]
      cases l1 with
      | nil => exact absurd rfl e
      | cons _ _ => rfl
    rw [e1]
    have e2 : lsA (l1 ++ [x]) 0 = x.t := by rw [lsA_app]; rfl
    have := tieF_hd (n := t.M.size) (l1 := l1 ++ [x]) (l2 := l2) (f := hdA (l1 ++ [x]) 0) (fun y hy => by
      rcases List.mem_append.1 hy with hy | hy
      · exact ok1 y hy
      · simp at hy; subst hy; exact hx) fun _ => rfl
    rw [e2] at this
    rw [this]
    simp
  · show IntKind.i64.wrap (t.c + 1) = _
    rw [h.c, wi (by omega) (by omega)]
    simp only [List.length_append, List.length_cons]
    omega
  · intro y hy
    show NdOk (insM t.M (lsA l1 0) (hdA l2 0) x.t (slN x) x.d).size y
    rw [hsz]
    rcases List.mem_append.1 hy with hy | hy
    · exact ok1 y hy
    · rcases List.mem_cons.1 hy with rfl | hy
      · exact hx
      · exact ok2 y hy
  · refine join3 (n := 0) (p := 0) hd h0 (DL_congr (fun y hy => setA_other fun e => n1 (by rw [← e]; exact mem_tA.2 ⟨y, hy, rfl⟩)) q1) ?_ (DL_congr (fun y hy => setA_other fun e => n2 (by rw [← e]; exact mem_tA.2 ⟨y, hy, rfl⟩)) q2)
    exact ⟨setA_same, trivial⟩
  · intro a ha hs
    have hs : slOK (insM t.M (lsA l1 0) (hdA l2 0) x.t (slN x) x.d).size a := hs
    rw [hsz] at hs
    rw [tA_app] at ha
    have a1 : a ∉ tA l1 := fun e => ha (List.mem_append_left _ e)
    have a2 : a ∉ tA l2 := fun e => ha (List.mem_append_right _ (List.mem_cons_of_mem _ e))
    have ax : a ≠ x.t := fun e => ha (List.mem_append_right _ (by rw [e]; exact List.mem_cons_self))
    rw [tieA_other (.inl ax) (ends_ne a2).2, tieA_other (ends_ne a1).1 (.inl ax)]
    show setA σ x.t _ a = _
    rw [setA_other ax]
    exact h.out a (by rw [tA_app]; exact fun e => (List.mem_append.1 e).elim a1 a2) hs
theorem badC_ok {x : Nd} (h : SlR (slN x)) (hb : badC x = false) : x.k ≠ 0 ∧ rgt (slN x) = true := by
  have e := right_eqS h
  have e : f45_1 x.k x.a x.b x.r x.g x.s x.m = f50_2 x.k x.a x.b x.r x.g x.s x.m := e
  unfold badC at hb
  rw [← e] at hb
  have hr : f45_1 x.k x.a x.b x.r x.g x.s x.m = true := by
    cases hh : f45_1 x.k x.a x.b x.r x.g x.s x.m with
    | true => rfl
    | false => rw [hh] at hb; cases hb
  rw [hr] at hb
  have hb : (x.k == 0) = false := hb
  exact ⟨fun e => (by rw [e] at hb; cases hb), hr⟩
theorem ftT_ok {z : Int} {l : List Nd} {x : Nd} (hu : 0 ≤ x.t) (h : ftT z l x = 0) : slOK z x.t ∧ x.t ≠ 0 ∧ fnd l x.t < 0 ∧ badC x = false ∧ l.length < 65536 := by
  unfold ftT frT at h
  simp only [cnd_eq] at h
  by_cases m : mayT z x.t = 0
  · refine ⟨(mayT_ok hu).1 m, ?_⟩
    grind
  · grind
theorem RepS.root {t : TS} {l : List Nd} {σ : Int → Sl} (h : RepS t l σ) {x : Nd} (hu : U64 x.t) (hx : SlR (slN x)) (hd : x.d = 0) (hl : l.length ≤ 100000) :
    rtE t x.t (slN x) = rtR t.M.size l x ∧ (∃ τ, RepS (rtT t x.t (slN x)) (rtL t.M.size l x) τ) ∧ (rtT t x.t (slN x)).M.size = t.M.size := by
  have e := h.ftE hu hx
  unfold rtE rtT rtR rtL
  rw [e]
  by_cases hz : ftT t.M.size l x = 0
  · obtain ⟨q1, q2, q3, q4, q5⟩ := ftT_ok hu.1 hz
    obtain ⟨b1, b2⟩ := badC_ok hx q4
    have hok : NdOk t.M.size x := ⟨q1, q2, b1, hx, b2, by omega, by omega⟩
    have hn : x.t ∉ tA ([] ++ l) := by
      rcases fnd_spec h.nd x.t with ⟨i, _, _, q, _⟩ | ⟨q, _⟩
      · omega
      · exact q
    obtain ⟨τ, R⟩ := RepS.ins (l1 := []) h hok hn hl
    have hb : (ftT t.M.size l x != 0) = false := by simp [hz]
    rw [hb]
    refine ⟨rfl, ⟨τ, ?_⟩, ins_size _ _ _ _ _ _⟩
    have hf := h.f
    rw [hd] at R
    have e1 : lsA ([] : List Nd) 0 = 0 := rfl
    rw [e1, ← hf] at R
    exact R
  · have hb : (ftT t.M.size l x != 0) = true := by simp [hz]
    rw [hb]
    exact ⟨rfl, ⟨σ, h⟩, rfl⟩
end Go.Sx.M

namespace Go.Sx.M
open Go Go.Sx
theorem cnd_f {α : Type} (a b : α) : cnd false a b = b := rfl
theorem cnd_t {α : Type} (a b : α) : cnd true a b = a := rfl
theorem op0_rep : RepS op0.1 [] (fun _ => sl0) :=
  ⟨Enc.new (by decide) (by decide) (by decide), rfl, rfl, List.nodup_nil, fun x h => (by cases h), trivial, fun _ _ _ => rfl⟩
theorem RepS.at_ {t : TS} {l : List Nd} {σ : Int → Sl} (h : RepS t l σ) {a : Int} (hu : U64 a) (he : hdT t.M.size l a = 0) :
    ∃ (l1 l2 : List Nd) (g : Nd), l = l1 ++ g :: l2 ∧ g.t = a ∧ fnd l a = l1.length ∧ atN l a = g ∧ Go.Sx.M.ld t.M a = sN g (hdA l2 0) (lsA l1 0) ∧ σ a = sN g (hdA l2 0) (lsA l1 0) ∧ slOK t.M.size a := by
  rcases h.ld hu with ⟨hs, m0, e0, el, ⟨i, hi, ht, hf, hm, hl⟩ | ⟨_, hf, hz⟩⟩ | ⟨_, m0, e0, el, hf, _⟩
  · refine ⟨l.take i, l.drop (i + 1), gN l i, hl, ht, by rw [hf, List.length_take]; omega, by unfold atN; rw [hf]; rfl, ?_⟩
    have hd := h.dl
    rw [hl] at hd
    obtain ⟨_, q⟩ := DL_app.1 hd
    obtain ⟨q, _⟩ := q
    rw [ht] at q
    exact ⟨by rw [el]; exact q, q, hs⟩
  · exfalso
    unfold hdT at he
    rw [m0, hf] at he
    cases he
  · exfalso
    unfold hdT at he
    rw [hf, beq_eq_false_iff_ne.2 m0] at he
    exact m0 he
theorem RepS.child {t : TS} {l : List Nd} {σ : Int → Sl} (h : RepS t l σ) {p : Int} {x : Nd} (hp : U64 p) (hu : U64 x.t) (hx : SlR (slN x)) (hl : l.length ≤ 100000) :
    chE t p x.t (slN x) = chR t.M.size l p x ∧ (∃ τ, RepS (chT t p x.t (slN x)) (chL t.M.size l p x) τ) ∧ (chT t p x.t (slN x)).M.size = t.M.size := by
  have e1 := h.ftE hu hx
  have e2 := h.hdE hp
  unfold chE chT chR chL
  rw [e1, e2]
  by_cases hz1 : hdT t.M.size l p = 0
  · obtain ⟨l1, l2, g, rfl, ht, hf, ha, hld, hs, hok⟩ := h.at_ hp hz1
    have hb1 : (hdT t.M.size (l1 ++ g :: l2) p != 0) = false := by simp [hz1]
    simp only [hb1, mrgM_f, cnd_f]
    by_cases hz : ftT t.M.size (l1 ++ g :: l2) x = 0
    · have hb2 : (ftT t.M.size (l1 ++ g :: l2) x != 0) = false := by simp [hz]
      rw [hld, ha]
      simp only [hb2, mrgM_f, cnd_f]
      obtain ⟨q1, q2, q3, q4, q5⟩ := ftT_ok hu.1 hz
      obtain ⟨b1, b2⟩ := badC_ok hx q4
      have hg := h.ok g (List.mem_append_right _ List.mem_cons_self)
      have hd : (sN g (hdA l2 0) (lsA l1 0)).d = g.d := rfl
      have hxx : (sN g (hdA l2 0) (lsA l1 0)).x = hdA l2 0 := rfl
      rw [hd, hxx]
      by_cases hdp : g.d ≥ 4096
      · simp only [decide_eq_true hdp, mrgM_t, cnd_t]
        exact ⟨trivial, ⟨σ, h⟩, trivial⟩
      · simp only [decide_eq_false hdp, mrgM_f, cnd_f]
        have hw : IntKind.i64.wrap (g.d + 1) = g.d + 1 := by have := hg.d0; rw [wi (by omega) (by omega)]
        have hok2 : NdOk t.M.size { x with d := IntKind.i64.wrap (g.d + 1) } := ⟨q1, q2, b1, hx, b2, by have := hg.d0; show 0 ≤ IntKind.i64.wrap (g.d + 1); rw [hw]; omega, by show IntKind.i64.wrap (g.d + 1) ≤ 4096; rw [hw]; omega⟩
        have hn : x.t ∉ tA (l1 ++ g :: l2) := by
          rcases fnd_spec h.nd x.t with ⟨i, _, _, q, _⟩ | ⟨q, _⟩
          · omega
          · exact q
        have hh : RepS t ((l1 ++ [g]) ++ l2) σ := by simpa using h
        obtain ⟨τ, R⟩ := RepS.ins (x := { x with d := IntKind.i64.wrap (g.d + 1) }) hh hok2 (by simpa using hn) (by simpa using hl)
        have el : lsA (l1 ++ [g]) 0 = p := by rw [lsA_app]; exact ht
        rw [el] at R
        have ep : putN (l1 ++ g :: l2) ((fnd (l1 ++ g :: l2) p).toNat + 1) { x with d := IntKind.i64.wrap (g.d + 1) } = (l1 ++ [g]) ++ { x with d := IntKind.i64.wrap (g.d + 1) } :: l2 := by
          rw [hf]
          unfold putN
          have hlen : ((l1.length:Int).toNat + 1) = (l1 ++ [g]).length := by simp
          have hsp : l1 ++ g :: l2 = (l1 ++ [g]) ++ l2 := by simp
          rw [hlen, hsp, List.take_left, List.drop_left]
        refine ⟨trivial, ⟨τ, ?_⟩, ins_size _ _ _ _ _ _⟩
        rw [ep]
        exact R
    · have hb2 : (ftT t.M.size (l1 ++ g :: l2) x != 0) = true := by simp [hz]
      simp only [hb2, mrgM_t, cnd_t]
      exact ⟨trivial, ⟨σ, h⟩, trivial⟩
  · have hb1 : (hdT t.M.size l p != 0) = true := by simp [hz1]
    simp only [hb1, mrgM_t, cnd_t]
    exact ⟨trivial, ⟨σ, h⟩, trivial⟩
end Go.Sx.M

namespace Go.Sx.M
open Go Go.Sx
def seR (z:Int) (l : List Nd) (x : Nd) : Int := cnd (hdT z l x.t != 0) (hdT z l x.t) (cnd (badC x) 10 0)
def seL (z:Int) (l : List Nd) (x : Nd) : List Nd := cnd (hdT z l x.t != 0) l (cnd (badC x) l (l.set (fnd l x.t).toNat { x with d := (atN l x.t).d }))
def mvR (z:Int) (l : List Nd) (a b:Int) : Int := cnd (hdT z l a != 0) (hdT z l a) (cnd (frT z l b != 0) (frT z l b) 0)
def mvL (z:Int) (l : List Nd) (a b:Int) : List Nd := cnd (hdT z l a != 0) l (cnd (frT z l b != 0) l (l.set (fnd l a).toNat { atN l a with t := b }))
theorem set_mid {l1 l2 : List Nd} {g x : Nd} {n : Int} (h : n = l1.length) : (l1 ++ g :: l2).set n.toNat x = l1 ++ x :: l2 := by
  subst h
  rw [List.set_append_right _ _ (by simp)]
  simp
theorem DL_upd {σ : Int → Sl} {l1 l2 : List Nd} {g x : Nd} (hd : (tA (l1 ++ g :: l2)).Nodup) (ht : x.t = g.t) (h : DL σ 0 (l1 ++ g :: l2) 0) :
    DL (setA σ g.t (sN x (hdA l2 0) (lsA l1 0))) 0 (l1 ++ x :: l2) 0 := by
  rw [tA_app] at hd
  obtain ⟨d1, d2, d3⟩ := List.nodup_append.1 hd
  obtain ⟨q1, q2, q3⟩ := DL_app.1 h
  have g1 : g.t ∉ tA l1 := fun e => d3 _ e _ List.mem_cons_self rfl
  have g2 : g.t ∉ tA l2 := (List.nodup_cons.1 d2).1
  refine DL_app.2 ⟨?_, ?_, ?_⟩
  · show DL _ 0 l1 x.t
    rw [ht]
    exact DL_congr (fun y hy => setA_other fun e => g1 (by rw [← e]; exact mem_tA.2 ⟨y, hy, rfl⟩)) q1
  · rw [ht, setA_same]
  · rw [ht]
    exact DL_congr (fun y hy => setA_other fun e => g2 (by rw [← e]; exact mem_tA.2 ⟨y, hy, rfl⟩)) q3
theorem tA_mid {l1 l2 : List Nd} {g x : Nd} (h : x.t = g.t) : tA (l1 ++ x :: l2) = tA (l1 ++ g :: l2) := by
  simp [tA, h]
theorem RepS.upd {t : TS} {l1 l2 : List Nd} {g x : Nd} {σ : Int → Sl} (h : RepS t (l1 ++ g :: l2) σ) (hx : NdOk t.M.size x) (ht : x.t = g.t) :
    RepS ⟨stM t.M g.t (sN x (hdA l2 0) (lsA l1 0)), t.f, t.c⟩ (l1 ++ x :: l2) (setA σ g.t (sN x (hdA l2 0) (lsA l1 0))) := by
  have ok1 : ∀ y, y ∈ l1 → NdOk t.M.size y := fun y hy => h.ok y (List.mem_append_left _ hy)
  have ok2 : ∀ y, y ∈ l2 → NdOk t.M.size y := fun y hy => h.ok y (List.mem_append_right _ (List.mem_cons_of_mem _ hy))
  have la : lnk (lsA l1 0) := (lsA_ok ok1).elim (fun e => by rw [e]; exact lnk0) fun k => k.lnk h.E.s2
  have lb : lnk (hdA l2 0) := (hdA_ok ok2).elim (fun e => by rw [e]; exact lnk0) fun k => k.lnk h.E.s2
  obtain ⟨r1, r2⟩ := sN_ok hx lb la
  have hg := h.ok g (List.mem_append_right _ List.mem_cons_self)
  obtain ⟨E1, _, z1⟩ := h.E.st hg.at_ r1 r2
  refine ⟨E1, ?_, ?_, by rw [tA_mid ht]; exact h.nd, ?_, DL_upd h.nd ht h.dl, ?_⟩
  · show t.f = _
    rw [h.f, hdA_app, hdA_app]
    cases l1 with
    | nil => exact ht.symm
    | cons _ _ => rfl
  · show t.c = _
    rw [h.c]
    simp
  · intro y hy
    show NdOk (stM t.M g.t _).size y
    rw [z1]
    rcases List.mem_append.1 hy with hy | hy
    · exact ok1 y hy
    · rcases List.mem_cons.1 hy with rfl | hy
      · exact hx
      · exact ok2 y hy
  · intro a ha hs
    have hs : slOK (stM t.M g.t (sN x (hdA l2 0) (lsA l1 0))).size a := hs
    rw [z1] at hs
    rw [tA_mid ht] at ha
    have : a ≠ g.t := fun e => ha (by rw [e]; exact mem_tA.2 ⟨g, List.mem_append_right _ List.mem_cons_self, rfl⟩)
    rw [setA_other this]
    exact h.out a ha hs
theorem RepS.set {t : TS} {l : List Nd} {σ : Int → Sl} (h : RepS t l σ) {x : Nd} (hu : U64 x.t) (hx : SlR (slN x)) :
    seE t x.t (slN x) = seR t.M.size l x ∧ (∃ τ, RepS (seT t x.t (slN x)) (seL t.M.size l x) τ) ∧ (seT t x.t (slN x)).M.size = t.M.size := by
  have e2 := h.hdE hu
  unfold seE seT seR seL
  rw [e2, mayC_eq hx]
  by_cases hz1 : hdT t.M.size l x.t = 0
  · obtain ⟨l1, l2, g, rfl, ht, hf, ha, hld, hs, hok⟩ := h.at_ hu hz1
    have hb1 : (hdT t.M.size (l1 ++ g :: l2) x.t != 0) = false := by simp [hz1]
    cases hb : badC x with
    | true =>
      simp only [hb1, mrgM_f, mrgM_t, cnd_f, cnd_t]
      exact ⟨rfl, ⟨σ, h⟩, rfl⟩
    | false =>
      obtain ⟨b1, b2⟩ := badC_ok hx hb
      have hg := h.ok g (List.mem_append_right _ List.mem_cons_self)
      have hxx : NdOk t.M.size { x with d := g.d } := ⟨hok, fun e => hg.nz (by rw [ht]; exact e), b1, hx, b2, hg.d0, hg.d1⟩
      have R := h.upd hxx ht.symm
      have hnz : (x.t == 0) = false := beq_eq_false_iff_ne.2 fun e => hg.nz (by rw [ht]; exact e)
      have hc : tC t.M x.t (slN x) = stM t.M g.t (sN { x with d := g.d } (hdA l2 0) (lsA l1 0)) := by
        unfold tC
        rw [hnz, mrgM_f, hld, ht]
        rfl
      simp only [hb1, mrgM_f, mrgM_t, cnd_f, cnd_t, hc, set_mid hf, ha]
      exact ⟨rfl, ⟨_, R⟩, by rw [← hc]; exact tC_size _ _ _⟩
  · have hb1 : (hdT t.M.size l x.t != 0) = true := by simp [hz1]
    simp only [hb1, mrgM_t, cnd_t]
    exact ⟨trivial, ⟨σ, h⟩, trivial⟩
theorem frT_ok {z : Int} {l : List Nd} {a : Int} (hu : 0 ≤ a) (h : frT z l a = 0) : slOK z a ∧ a ≠ 0 ∧ fnd l a < 0 := by
  unfold frT at h
  simp only [cnd_eq] at h
  by_cases m : mayT z a = 0
  · refine ⟨(mayT_ok hu).1 m, ?_⟩
    grind
  · grind
theorem RepS.move {t : TS} {l : List Nd} {σ : Int → Sl} (h : RepS t l σ) {a b : Int} (hua : U64 a) (hub : U64 b) :
    mvE t a b = mvR t.M.size l a b ∧ (∃ τ, RepS (mvT t a b) (mvL t.M.size l a b) τ) ∧ (mvT t a b).M.size = t.M.size := by
  have e1 := h.frE hub
  have e2 := h.hdE hua
  unfold mvE mvT mvR mvL
  rw [e2, e1]
  by_cases hz1 : hdT t.M.size l a = 0
  · obtain ⟨l1, l2, g, rfl, ht, hf, ha, hld, hs, hok⟩ := h.at_ hua hz1
    have hb1 : (hdT t.M.size (l1 ++ g :: l2) a != 0) = false := by simp [hz1]
    simp only [hb1, mrgM_f, cnd_f]
    by_cases hz : frT t.M.size (l1 ++ g :: l2) b = 0
    · have hb2 : (frT t.M.size (l1 ++ g :: l2) b != 0) = false := by simp [hz]
      simp only [hb2, mrgM_f, cnd_f]
      obtain ⟨k1, k2, k3⟩ := frT_ok hub.1 hz
      have hbn : b ∉ tA (l1 ++ g :: l2) := by
        rcases fnd_spec h.nd b with ⟨i, _, _, q, _⟩ | ⟨q, _⟩
        · omega
        · exact q
      have hg := h.ok g (List.mem_append_right _ List.mem_cons_self)
      have ok1 : ∀ y, y ∈ l1 → NdOk t.M.size y := fun y hy => h.ok y (List.mem_append_left _ hy)
      have ok2 : ∀ y, y ∈ l2 → NdOk t.M.size y := fun y hy => h.ok y (List.mem_append_right _ (List.mem_cons_of_mem _ hy))
      have hx : NdOk t.M.size { g with t := b } := ⟨k1, k2, hg.k, hg.R, hg.r, hg.d0, hg.d1⟩
      obtain ⟨E1, _, z1⟩ := h.E.st hok sl0_R sl0_right
      have hne : b ≠ a := fun e => hbn (by rw [e, ← ht]; exact mem_tA.2 ⟨g, List.mem_append_right _ List.mem_cons_self, rfl⟩)
      have la : lnk (lsA l1 0) := (lsA_ok ok1).elim (fun e => by rw [e]; exact lnk0) fun k => k.lnk h.E.s2
      have lb : lnk (hdA l2 0) := (hdA_ok ok2).elim (fun e => by rw [e]; exact lnk0) fun k => k.lnk h.E.s2
      obtain ⟨r1, r2⟩ := sN_ok hg lb la
      obtain ⟨E2, _, z2⟩ := E1.st (a := b) (by rw [z1]; exact k1) r1 r2
      have hM : mvM t a b = stM (stM t.M a sl0) b (sN g (hdA l2 0) (lsA l1 0)) := by unfold mvM; rw [hld]
      rw [← hM] at E2 z2
      have zz : (mvM t a b).size = t.M.size := z2.trans z1
      obtain ⟨E3, z3⟩ := E2.tie (a := lsA l1 0) (b := b) (by rw [zz]; exact lsA_ok ok1) (by rw [zz]; exact .inr k1)
      obtain ⟨E4, z4⟩ := E3.tie (a := b) (b := hdA l2 0) (by rw [z3, zz]; exact .inr k1) (by rw [z3, zz]; exact hdA_ok ok2)
      have hxx : (sN g (hdA l2 0) (lsA l1 0)).x = hdA l2 0 := rfl
      have hpp : (sN g (hdA l2 0) (lsA l1 0)).p = lsA l1 0 := rfl
      rw [hld, ha, hxx, hpp, set_mid hf]
      have nd := h.nd
      rw [tA_app] at nd hbn
      obtain ⟨d1, d2, d3⟩ := List.nodup_append.1 nd
      have d2' := List.nodup_cons.1 d2
      have n1 : b ∉ tA l1 := fun e => hbn (List.mem_append_left _ e)
      have n2 : b ∉ tA l2 := fun e => hbn (List.mem_append_right _ (List.mem_cons_of_mem _ e))
      have g1 : a ∉ tA l1 := fun e => d3 _ e _ List.mem_cons_self ht.symm
      have g2 : a ∉ tA l2 := fun e => d2'.1 (by rw [ht]; exact e)
      have hd : (tA (l1 ++ { g with t := b } :: l2)).Nodup := by
        rw [tA_app]
        refine List.nodup_append.2 ⟨d1, List.nodup_cons.2 ⟨n2, d2'.2⟩, ?_⟩
        intro c hc e he q
        rcases List.mem_cons.1 he with rfl | he
        · exact n1 (by rw [← q]; exact hc)
        · exact d3 c hc e (List.mem_cons_of_mem _ he) q
      have hz0 : (0:Int) ∉ tA (l1 ++ { g with t := b } :: l2) := by
        have z0 := h.z0
        rw [tA_app] at z0 ⊢
        intro e
        rcases List.mem_append.1 e with e | e
        · exact z0 (List.mem_append_left _ e)
        · rcases List.mem_cons.1 e with e | e
          · exact k2 e.symm
          · exact z0 (List.mem_append_right _ (List.mem_cons_of_mem _ e))
      obtain ⟨q1, _, q3⟩ := DL_app.1 h.dl
      have hsame : ∀ {l : List Nd}, a ∉ tA l → b ∉ tA l → ∀ y, y ∈ l → setA (setA σ a sl0) b (sN g (hdA l2 0) (lsA l1 0)) y.t = σ y.t := by
        intro l m1 m2 y hy
        have hm : y.t ∈ tA l := mem_tA.2 ⟨y, hy, rfl⟩
        rw [setA_other fun e => m2 (by rw [← e]; exact hm), setA_other fun e => m1 (by rw [← e]; exact hm)]
      refine ⟨trivial, ⟨_, ⟨E4, ?_, ?_, hd, ?_, ?_, ?_⟩⟩, ?_⟩
      · show tieF (tieF t.f (lsA l1 0) b) b (hdA l2 0) = _
        have f1 : tieF t.f (lsA l1 0) b = hdA (l1 ++ [{ g with t := b }]) 0 := tieF_hd (l2 := [{ g with t := b }]) ok1 fun e => by
          rw [h.f, hdA_app]
          cases l1 with
          | nil => exact absurd rfl e
          | cons _ _ => rfl
        rw [f1]
        have f2 : lsA (l1 ++ [{ g with t := b }]) 0 = b := by rw [lsA_app]; rfl
        have := tieF_hd (n := t.M.size) (l1 := l1 ++ [{ g with t := b }]) (l2 := l2) (f := hdA (l1 ++ [{ g with t := b }]) 0) (fun y hy => by
          rcases List.mem_append.1 hy with hy | hy
          · exact ok1 y hy
          · simp at hy; subst hy; exact hx) fun _ => rfl
        rw [f2] at this
        rw [this]
        simp
      · show t.c = _
        rw [h.c]
        simp
      · intro y hy
        show NdOk (tieM (tieM (mvM t a b) (lsA l1 0) b) b (hdA l2 0)).size y
        rw [z4, z3, zz]
        rcases List.mem_append.1 hy with hy | hy
        · exact ok1 y hy
        · rcases List.mem_cons.1 hy with rfl | hy
          · exact hx
          · exact ok2 y hy
      · refine join3 (x := { g with t := b }) (n := hdA l2 0) (p := lsA l1 0) hd hz0 (DL_congr (hsame g1 n1) q1) ⟨?_, trivial⟩ (DL_congr (hsame g2 n2) q3)
        show setA (setA σ a sl0) b _ b = _
        rw [setA_same]
        rfl
      · intro c hc hs'
        have hs' : slOK (tieM (tieM (mvM t a b) (lsA l1 0) b) b (hdA l2 0)).size c := hs'
        rw [z4, z3, zz] at hs'
        rw [tA_app] at hc
        have c1 : c ∉ tA l1 := fun e => hc (List.mem_append_left _ e)
        have c2 : c ∉ tA l2 := fun e => hc (List.mem_append_right _ (List.mem_cons_of_mem _ e))
        have cb : c ≠ b := fun e => hc (List.mem_append_right _ (by rw [e]; exact List.mem_cons_self))
        rw [tieA_other (.inl cb) (ends_ne c2).2, tieA_other (ends_ne c1).1 (.inl cb), setA_other cb]
        by_cases ca : c = a
        · subst ca; exact setA_same
        · rw [setA_other ca]
          refine h.out c ?_ hs'
          rw [tA_app]
          intro e
          rcases List.mem_append.1 e with e | e
          · exact c1 e
          · rcases List.mem_cons.1 e with e | e
            · exact ca (e.trans ht)
            · exact c2 e
      · show (tieM (tieM (mvM t a b) (lsA l1 0) b) b (hdA l2 0)).size = _
        rw [z4, z3, zz]
    · have hb2 : (frT t.M.size (l1 ++ g :: l2) b != 0) = true := by simp [hz]
      simp only [hb2, mrgM_t, cnd_t]
      exact ⟨trivial, ⟨σ, h⟩, trivial⟩
  · have hb1 : (hdT t.M.size l a != 0) = true := by simp [hz1]
    simp only [hb1, mrgM_t, cnd_t]
    exact ⟨trivial, ⟨σ, h⟩, trivial⟩
end Go.Sx.M

namespace Go.Sx.M
open Go Go.Sx
theorem join2p {σ : Int → Sl} {l1 l2 : List Nd} {n p p0 m : Int} (hne : l1 ≠ []) (hd : (tA (l1 ++ l2)).Nodup) (h0 : (0:Int) ∉ tA (l1 ++ l2)) (hm : l2 = [] → m = 0) (h1 : DL σ p0 l1 n) (h2 : DL σ p l2 m) : DL (tieA σ (lsA l1 0) (hdA l2 0)) p0 (l1 ++ l2) m := by
  rw [tA_app] at hd h0
  obtain ⟨d1, d2, d3⟩ := List.nodup_append.1 hd
  have z1 : (0:Int) ∉ tA l1 := fun h => h0 (List.mem_append_left _ h)
  have z2 : (0:Int) ∉ tA l2 := fun h => h0 (List.mem_append_right _ h)
  rw [DL_app]
  have m1 : lsA l1 0 ∈ tA l1 := lsA_mem hne
  have ep : lsA l1 p0 = lsA l1 0 := lsA_p hne
  rw [ep]
  by_cases e2 : l2 = []
  · subst e2
    rw [hm rfl]
    exact ⟨DL_left hne rfl z1 d1 z1 h1, trivial⟩
  · have m2 : hdA l2 0 ∈ tA l2 := hdA_mem e2
    have e3 : hdA l2 m = hdA l2 0 := by cases l2 with
      | nil => exact absurd rfl e2
      | cons _ _ => rfl
    rw [e3]
    exact ⟨DL_left hne rfl z1 d1 (fun h => d3 _ h _ m2 rfl) h1, DL_right e2 rfl z2 d2 (fun h => d3 _ m1 _ h rfl) h2⟩
theorem lsA_in (l : List Nd) : lsA l 0 = 0 ∨ lsA l 0 ∈ tA l := by
  by_cases e : l = []
  · subst e; exact .inl rfl
  · exact .inr (lsA_mem e)
theorem hdA_in (l : List Nd) : hdA l 0 = 0 ∨ hdA l 0 ∈ tA l := by
  by_cases e : l = []
  · subst e; exact .inl rfl
  · exact .inr (hdA_mem e)
def Ap (l k : List Nd) : Prop := ∀ u, u ∈ tA l → ∀ v, v ∈ tA k → u ≠ v
theorem Ap.nin {l k : List Nd} (h : Ap l k) (h0 : (0:Int) ∉ tA k) {a : Int} (ha : a = 0 ∨ a ∈ tA l) : a ∉ tA k := fun e =>
  ha.elim (fun q => h0 (by rw [← q]; exact e)) fun q => h a q a e rfl
theorem Ap.symm {l k : List Nd} (h : Ap l k) : Ap k l := fun u hu v hv e => h v hv u hu e.symm
theorem nod2 {l k : List Nd} : (tA (l ++ k)).Nodup ↔ (tA l).Nodup ∧ (tA k).Nodup ∧ Ap l k := by
  rw [tA_app, List.nodup_append]
  rfl
theorem z2 {l k : List Nd} : (0:Int) ∉ tA (l ++ k) ↔ (0:Int) ∉ tA l ∧ (0:Int) ∉ tA k := by
  rw [tA_app, List.mem_append, not_or]
theorem Ap_l {l k j : List Nd} : Ap (l ++ k) j ↔ Ap l j ∧ Ap k j := by
  unfold Ap
  rw [tA_app]
  simp only [List.mem_append]
  exact ⟨fun h => ⟨fun u hu => h u (.inl hu), fun u hu => h u (.inr hu)⟩, fun h u hu => hu.elim (h.1 u) (h.2 u)⟩
theorem Ap_r {l k j : List Nd} : Ap j (l ++ k) ↔ Ap j l ∧ Ap j k := by
  unfold Ap
  rw [tA_app]
  simp only [List.mem_append]
  exact ⟨fun h => ⟨fun u hu v hv => h u hu v (.inl hv), fun u hu v hv => h u hu v (.inr hv)⟩, fun h u hu v hv => hv.elim (h.1 u hu v) (h.2 u hu v)⟩
theorem one_in (x : Nd) : x.t = 0 ∨ x.t ∈ tA [x] := .inr (by simp [tA])
theorem one_ne (x : Nd) : [x] ≠ [] := by simp
theorem DL_sw1 {τ : Int → Sl} {l1 m l2 : List Nd} {x y : Nd} {n1 px nx pm nm py ny p2 : Int} (hd : (tA ((((l1 ++ [x]) ++ m) ++ [y]) ++ l2)).Nodup) (h0 : (0:Int) ∉ tA ((((l1 ++ [x]) ++ m) ++ [y]) ++ l2))
    (h1 : DL τ 0 l1 n1) (hx : DL τ px [x] nx) (hm : DL τ pm m nm) (hy : DL τ py [y] ny) (h2 : DL τ p2 l2 0) :
    DL (tieA (tieA (tieA (tieA τ (lsA l1 0) x.t) x.t (hdA (m ++ [y]) 0)) (lsA (x :: m) 0) y.t) y.t (hdA l2 0)) 0 ((((l1 ++ [x]) ++ m) ++ [y]) ++ l2) 0 := by
  obtain ⟨d4, dl, a4⟩ := nod2.1 hd
  obtain ⟨d3, dy, a3⟩ := nod2.1 d4
  obtain ⟨d2, dm, a2⟩ := nod2.1 d3
  obtain ⟨d1, dx, a1⟩ := nod2.1 d2
  obtain ⟨o4, ol⟩ := z2.1 h0
  obtain ⟨o3, oy⟩ := z2.1 o4
  obtain ⟨o2, om⟩ := z2.1 o3
  obtain ⟨o1, ox⟩ := z2.1 o2
  obtain ⟨⟨⟨a1l, axl⟩, aml⟩, ayl⟩ : ((Ap l1 l2 ∧ Ap [x] l2) ∧ Ap m l2) ∧ Ap [y] l2 := by
    have := Ap_l.1 a4; obtain ⟨q, r⟩ := this; have := Ap_l.1 q; obtain ⟨q, s⟩ := this; exact ⟨⟨Ap_l.1 q, s⟩, r⟩
  obtain ⟨⟨a1y, axy⟩, amy⟩ : (Ap l1 [y] ∧ Ap [x] [y]) ∧ Ap m [y] := by
    have := Ap_l.1 a3; obtain ⟨q, r⟩ := this; exact ⟨Ap_l.1 q, r⟩
  obtain ⟨a1m, axm⟩ := Ap_l.1 a2
  have k1 : DL (tieA τ (lsA l1 0) x.t) 0 (l1 ++ [x]) nx := join2 (l2 := [x]) d2 o2 (fun e => by cases e) h1 hx
  have km : DL (tieA τ (lsA l1 0) x.t) pm m nm := DL_out (a1m.nin om (lsA_in l1)) (axm.nin om (one_in x)) hm
  have ky : DL (tieA τ (lsA l1 0) x.t) py [y] ny := DL_out (a1y.nin oy (lsA_in l1)) (axy.nin oy (one_in x)) hy
  have kl : DL (tieA τ (lsA l1 0) x.t) p2 l2 0 := DL_out (a1l.nin ol (lsA_in l1)) (axl.nin ol (one_in x)) h2
  generalize tieA τ (lsA l1 0) x.t = τ1 at k1 km ky kl ⊢
  have e1 : lsA (l1 ++ [x]) 0 = x.t := by rw [lsA_app]; rfl
  have k3 : DL (tieA (tieA τ1 x.t (hdA (m ++ [y]) 0)) (lsA (x :: m) 0) y.t) 0 (((l1 ++ [x]) ++ m) ++ [y]) ny ∧ DL (tieA (tieA τ1 x.t (hdA (m ++ [y]) 0)) (lsA (x :: m) 0) y.t) p2 l2 0 := by
    by_cases em : m = []
    · subst em
      have hd' : (tA ((l1 ++ [x]) ++ [y])).Nodup := by simpa using d4
      have o' : (0:Int) ∉ tA ((l1 ++ [x]) ++ [y]) := by simpa using o4
      have q1 := join2 (l1 := l1 ++ [x]) (l2 := [y]) hd' o' (fun e => by cases e) k1 ky
      rw [e1] at q1
      have q2 : DL (tieA τ1 x.t y.t) p2 l2 0 := DL_out (axl.nin ol (one_in x)) (ayl.nin ol (one_in y)) kl
      obtain ⟨r1, r2⟩ := DL_app.1 q1
      have q3 := join2 (l1 := l1 ++ [x]) (l2 := [y]) hd' o' (fun e => by cases e) r1 r2
      rw [e1] at q3
      refine ⟨?_, DL_out (axl.nin ol (one_in x)) (ayl.nin ol (one_in y)) q2⟩
      simpa [lsA, hdA] using q3
    · have q1 := join2 (l1 := l1 ++ [x]) (l2 := m) d3 o3 (fun e => absurd e em) k1 km
      rw [e1] at q1
      have eh : hdA (m ++ [y]) 0 = hdA m 0 := by
        cases m with
        | nil => exact absurd rfl em
        | cons _ _ => rfl
      have el : lsA (x :: m) 0 = lsA ((l1 ++ [x]) ++ m) 0 := by
        rw [lsA_app]
        show lsA m x.t = _
        exact lsA_p em
      have el2 : lsA (x :: m) 0 = lsA m 0 := lsA_p em
      rw [eh]
      have q2 : DL (tieA τ1 x.t (hdA m 0)) py [y] ny := DL_out (axy.nin oy (one_in x)) (amy.nin oy (hdA_in m)) ky
      have q3 : DL (tieA τ1 x.t (hdA m 0)) p2 l2 0 := DL_out (axl.nin ol (one_in x)) (aml.nin ol (hdA_in m)) kl
      refine ⟨?_, ?_⟩
      · rw [el]
        exact join2 (l1 := (l1 ++ [x]) ++ m) (l2 := [y]) d4 o4 (fun e => by cases e) q1 q2
      · rw [el2]
        exact DL_out (aml.nin ol (lsA_in m)) (ayl.nin ol (one_in y)) q3
  have e4 : lsA (((l1 ++ [x]) ++ m) ++ [y]) 0 = y.t := by rw [lsA_app]; rfl
  have k4 := join2 (l1 := ((l1 ++ [x]) ++ m) ++ [y]) (l2 := l2) hd h0 (fun _ => rfl) k3.1 k3.2
  rw [e4] at k4
  exact k4
theorem DL_sw2 {τ : Int → Sl} {l1 m l2 : List Nd} {x y : Nd} {n1 px nx pm nm py ny p2 : Int} (hd : (tA ((((l1 ++ [y]) ++ m) ++ [x]) ++ l2)).Nodup) (h0 : (0:Int) ∉ tA ((((l1 ++ [y]) ++ m) ++ [x]) ++ l2))
    (h1 : DL τ 0 l1 n1) (hx : DL τ px [x] nx) (hm : DL τ pm m nm) (hy : DL τ py [y] ny) (h2 : DL τ p2 l2 0) :
    DL (tieA (tieA (tieA (tieA τ (lsA (y :: m) 0) x.t) x.t (hdA l2 0)) (lsA l1 0) y.t) y.t (hdA (m ++ [x]) 0)) 0 ((((l1 ++ [y]) ++ m) ++ [x]) ++ l2) 0 := by
  obtain ⟨d4, dl, a4⟩ := nod2.1 hd
  obtain ⟨d3, dy, a3⟩ := nod2.1 d4
  obtain ⟨d2, dm, a2⟩ := nod2.1 d3
  obtain ⟨d1, dx, a1⟩ := nod2.1 d2
  obtain ⟨o4, ol⟩ := z2.1 h0
  obtain ⟨o3, oy⟩ := z2.1 o4
  obtain ⟨o2, om⟩ := z2.1 o3
  obtain ⟨o1, ox⟩ := z2.1 o2
  obtain ⟨⟨⟨a1l, axl⟩, aml⟩, ayl⟩ : ((Ap l1 l2 ∧ Ap [y] l2) ∧ Ap m l2) ∧ Ap [x] l2 := by
    have := Ap_l.1 a4; obtain ⟨q, r⟩ := this; have := Ap_l.1 q; obtain ⟨q, s⟩ := this; exact ⟨⟨Ap_l.1 q, s⟩, r⟩
  obtain ⟨⟨a1y, axy⟩, amy⟩ : (Ap l1 [x] ∧ Ap [y] [x]) ∧ Ap m [x] := by
    have := Ap_l.1 a3; obtain ⟨q, r⟩ := this; exact ⟨Ap_l.1 q, r⟩
  obtain ⟨a1m, axm⟩ := Ap_l.1 a2
  have e1 : lsA (l1 ++ [y]) 0 = y.t := by rw [lsA_app]; rfl
  by_cases em : m = []
  · subst em
    have dyx : (tA ([y] ++ [x])).Nodup := nod2.2 ⟨dx, dy, axy⟩
    have oyx : (0:Int) ∉ tA ([y] ++ [x]) := z2.2 ⟨ox, oy⟩
    have dyxl : (tA (([y] ++ [x]) ++ l2)).Nodup := nod2.2 ⟨dyx, dl, Ap_l.2 ⟨axl, ayl⟩⟩
    have oyxl : (0:Int) ∉ tA (([y] ++ [x]) ++ l2) := z2.2 ⟨oyx, ol⟩
    have k1 : DL (tieA τ y.t x.t) py ([y] ++ [x]) nx := join2p (one_ne y) dyx oyx (fun e => by cases e) hy hx
    have k1l : DL (tieA τ y.t x.t) p2 l2 0 := DL_out (axl.nin ol (one_in y)) (ayl.nin ol (one_in x)) h2
    have k10 : DL (tieA τ y.t x.t) 0 l1 n1 := DL_out (a1.symm.nin o1 (one_in y)) (a1y.symm.nin o1 (one_in x)) h1
    show DL (tieA (tieA (tieA (tieA τ y.t x.t) x.t (hdA l2 0)) (lsA l1 0) y.t) y.t x.t) 0 ((((l1 ++ [y]) ++ []) ++ [x]) ++ l2) 0
    generalize tieA τ y.t x.t = τ1 at k1 k1l k10 ⊢
    have k2 : DL (tieA τ1 x.t (hdA l2 0)) py (([y] ++ [x]) ++ l2) 0 := join2p (l1 := [y] ++ [x]) (by simp) dyxl oyxl (fun _ => rfl) k1 k1l
    have k20 : DL (tieA τ1 x.t (hdA l2 0)) 0 l1 n1 := DL_out (a1y.symm.nin o1 (one_in x)) (a1l.symm.nin o1 (hdA_in l2)) k10
    generalize tieA τ1 x.t (hdA l2 0) = τ2 at k2 k20 ⊢
    have hd3 : (tA (l1 ++ (([y] ++ [x]) ++ l2))).Nodup := by simpa using hd
    have h03 : (0:Int) ∉ tA (l1 ++ (([y] ++ [x]) ++ l2)) := by simpa using h0
    have k3 : DL (tieA τ2 (lsA l1 0) y.t) 0 (l1 ++ (([y] ++ [x]) ++ l2)) 0 := join2 hd3 h03 (fun _ => rfl) k20 k2
    generalize tieA τ2 (lsA l1 0) y.t = τ3 at k3 ⊢
    have k3' : DL τ3 0 ((l1 ++ [y]) ++ ([x] ++ l2)) 0 := by simpa using k3
    obtain ⟨r1, r2⟩ := DL_app.1 k3'
    have k4 := join2 (l1 := l1 ++ [y]) (l2 := [x] ++ l2) (by simpa using hd) (by simpa using h0) (fun _ => rfl) r1 r2
    rw [e1] at k4
    have k4 : DL (tieA τ3 y.t x.t) 0 ((l1 ++ [y]) ++ ([x] ++ l2)) 0 := k4
    simpa using k4
  · have eh : hdA (m ++ [x]) 0 = hdA m 0 := by
      cases m with
      | nil => exact absurd rfl em
      | cons _ _ => rfl
    have el : lsA (y :: m) 0 = lsA m 0 := lsA_p em
    have dmx : (tA (m ++ [x])).Nodup := nod2.2 ⟨dm, dy, amy⟩
    have omx : (0:Int) ∉ tA (m ++ [x]) := z2.2 ⟨om, oy⟩
    have dmxl : (tA ((m ++ [x]) ++ l2)).Nodup := nod2.2 ⟨dmx, dl, Ap_l.2 ⟨aml, ayl⟩⟩
    have omxl : (0:Int) ∉ tA ((m ++ [x]) ++ l2) := z2.2 ⟨omx, ol⟩
    have emx : lsA (m ++ [x]) 0 = x.t := by rw [lsA_app]; rfl
    rw [el]
    have k1 : DL (tieA τ (lsA m 0) x.t) pm (m ++ [x]) nx := join2p em dmx omx (fun e => by cases e) hm hx
    have k1l : DL (tieA τ (lsA m 0) x.t) p2 l2 0 := DL_out (aml.nin ol (lsA_in m)) (ayl.nin ol (one_in x)) h2
    have k1y : DL (tieA τ (lsA m 0) x.t) py [y] ny := DL_out (axm.symm.nin ox (lsA_in m)) (axy.symm.nin ox (one_in x)) hy
    have k10 : DL (tieA τ (lsA m 0) x.t) 0 l1 n1 := DL_out (a1m.symm.nin o1 (lsA_in m)) (a1y.symm.nin o1 (one_in x)) h1
    generalize tieA τ (lsA m 0) x.t = τ1 at k1 k1l k1y k10 ⊢
    have k2 := join2p (l1 := m ++ [x]) (l2 := l2) (by simp) dmxl omxl (fun _ => rfl) k1 k1l
    rw [emx] at k2
    have k2y : DL (tieA τ1 x.t (hdA l2 0)) py [y] ny := DL_out (axy.symm.nin ox (one_in x)) (axl.symm.nin ox (hdA_in l2)) k1y
    have k20 : DL (tieA τ1 x.t (hdA l2 0)) 0 l1 n1 := DL_out (a1y.symm.nin o1 (one_in x)) (a1l.symm.nin o1 (hdA_in l2)) k10
    generalize tieA τ1 x.t (hdA l2 0) = τ2 at k2 k2y k20 ⊢
    have k3 : DL (tieA τ2 (lsA l1 0) y.t) 0 (l1 ++ [y]) ny := join2 (l2 := [y]) d2 o2 (fun e => by cases e) k20 k2y
    have k3r : DL (tieA τ2 (lsA l1 0) y.t) pm ((m ++ [x]) ++ l2) 0 :=
      DL_out ((Ap_r.2 ⟨Ap_r.2 ⟨a1m, a1y⟩, a1l⟩).nin omxl (lsA_in l1)) ((Ap_r.2 ⟨Ap_r.2 ⟨axm, axy⟩, axl⟩).nin omxl (one_in y)) k2
    generalize tieA τ2 (lsA l1 0) y.t = τ3 at k3 k3r ⊢
    have hd4 : (tA ((l1 ++ [y]) ++ ((m ++ [x]) ++ l2))).Nodup := by simpa using hd
    have h04 : (0:Int) ∉ tA ((l1 ++ [y]) ++ ((m ++ [x]) ++ l2)) := by simpa using h0
    have k4 := join2 (l1 := l1 ++ [y]) (l2 := (m ++ [x]) ++ l2) hd4 h04 (fun _ => rfl) k3 k3r
    have e5 : hdA ((m ++ [x]) ++ l2) 0 = hdA (m ++ [x]) 0 := by
      cases m with
      | nil => exact absurd rfl em
      | cons _ _ => rfl
    rw [e1, e5] at k4
    simpa using k4
end Go.Sx.M

namespace Go.Sx.M
open Go Go.Sx
noncomputable def delT (t : TS) (a p n:Int) : TS := ⟨tieM (stM t.M a sl0) p n, tieF t.f p n, IntKind.i64.wrap (t.c - 1)⟩
theorem RepS.del {t : TS} {l1 l2 : List Nd} {g : Nd} {σ : Int → Sl} (h : RepS t (l1 ++ g :: l2) σ) (hl : (l1 ++ g :: l2).length ≤ 100000) :
    ∃ τ, RepS (delT t g.t (lsA l1 0) (hdA l2 0)) (l1 ++ l2) τ ∧ (delT t g.t (lsA l1 0) (hdA l2 0)).M.size = t.M.size := by
  have ok1 : ∀ y, y ∈ l1 → NdOk t.M.size y := fun y hy => h.ok y (List.mem_append_left _ hy)
  have ok2 : ∀ y, y ∈ l2 → NdOk t.M.size y := fun y hy => h.ok y (List.mem_append_right _ (List.mem_cons_of_mem _ hy))
  have okg := h.ok g (List.mem_append_right _ List.mem_cons_self)
  obtain ⟨E1, _, z1⟩ := h.E.st okg.at_ sl0_R sl0_right
  obtain ⟨E2, z2'⟩ := E1.tie (a := lsA l1 0) (b := hdA l2 0) (by rw [z1]; exact lsA_ok ok1) (by rw [z1]; exact hdA_ok ok2)
  have sz := z2'.trans z1
  have nd := h.nd
  rw [tA_app] at nd
  obtain ⟨d1, d2, d3⟩ := List.nodup_append.1 nd
  have d2' := List.nodup_cons.1 d2
  have g1 : g.t ∉ tA l1 := fun e => d3 _ e _ List.mem_cons_self rfl
  have g2 : g.t ∉ tA l2 := d2'.1
  have hd : (tA (l1 ++ l2)).Nodup := by
    rw [tA_app]
    exact List.nodup_append.2 ⟨d1, d2'.2, fun a ha b hb => d3 a ha b (List.mem_cons_of_mem _ hb)⟩
  have z0 := h.z0
  have h0 : (0:Int) ∉ tA (l1 ++ l2) := by
    rw [tA_app] at z0 ⊢
    intro e
    rcases List.mem_append.1 e with e | e
    · exact z0 (List.mem_append_left _ e)
    · exact z0 (List.mem_append_right _ (List.mem_cons_of_mem _ e))
  obtain ⟨q1, _, q3⟩ := DL_app.1 h.dl
  refine ⟨tieA (setA σ g.t sl0) (lsA l1 0) (hdA l2 0), ⟨E2, ?_, ?_, hd, ?_, ?_, ?_⟩, sz⟩
  · show tieF t.f (lsA l1 0) (hdA l2 0) = _
    exact tieF_hd ok1 fun e => by
      rw [h.f]
      cases l1 with
      | nil => exact absurd rfl e
      | cons _ _ => rfl
  · show IntKind.i64.wrap (t.c - 1) = _
    rw [h.c]
    simp only [List.length_append, List.length_cons] at hl ⊢
    rw [wi (by omega) (by omega)]
    omega
  · intro y hy
    show NdOk (tieM (stM t.M g.t sl0) (lsA l1 0) (hdA l2 0)).size y
    rw [sz]
    rcases List.mem_append.1 hy with hy | hy
    · exact ok1 y hy
    · exact ok2 y hy
  · exact join2 hd h0 (fun _ => rfl) (DL_congr (fun y hy => setA_other fun e => g1 (by rw [← e]; exact mem_tA.2 ⟨y, hy, rfl⟩)) q1) (DL_congr (fun y hy => setA_other fun e => g2 (by rw [← e]; exact mem_tA.2 ⟨y, hy, rfl⟩)) q3)
  · intro c hc hs
    have hs : slOK (tieM (stM t.M g.t sl0) (lsA l1 0) (hdA l2 0)).size c := hs
    rw [sz] at hs
    rw [tA_app] at hc
    have c1 : c ∉ tA l1 := fun e => hc (List.mem_append_left _ e)
    have c2 : c ∉ tA l2 := fun e => hc (List.mem_append_right _ e)
    rw [tieA_other (ends_ne c1).1 (ends_ne c2).2]
    by_cases e : c = g.t
    · rw [e, setA_same]
    · rw [setA_other e]
      refine h.out c (fun q => ?_) hs
      rw [tA_app] at q
      rcases List.mem_append.1 q with q | q
      · exact c1 q
      · rcases List.mem_cons.1 q with q | q
        · exact e q
        · exact c2 q
def dN (g : Nd) : Nd := { g with d := g.d - 1 }
theorem RepS.dec {t : TS} {l1 l2 : List Nd} {g : Nd} {σ : Int → Sl} (h : RepS t (l1 ++ g :: l2) σ) (hd : 1 ≤ g.d) :
    ∃ τ, RepS ⟨tD t.M g.t, t.f, t.c⟩ (l1 ++ dN g :: l2) τ ∧ (tD t.M g.t).size = t.M.size := by
  have okg := h.ok g (List.mem_append_right _ List.mem_cons_self)
  obtain ⟨q1, q2, q3⟩ := DL_app.1 h.dl
  have hx : NdOk t.M.size (dN g) := ⟨okg.at_, okg.nz, okg.k, okg.R, okg.r, by show 0 ≤ g.d - 1; omega, by have := okg.d1; show g.d - 1 ≤ 4096; omega⟩
  have R := h.upd hx rfl
  have hnz : (g.t == 0) = false := beq_eq_false_iff_ne.2 okg.nz
  have hw : IntKind.i64.wrap (g.d - 1) = g.d - 1 := by have := okg.d1; rw [wi (by omega) (by omega)]
  have hl := (h.E.ld okg.at_).1
  have hc : tD t.M g.t = stM t.M g.t (sN (dN g) (hdA l2 0) (lsA l1 0)) := by
    unfold tD
    rw [hnz, mrgM_f, hl, q2]
    show stM t.M g.t { sN g (hdA l2 0) (lsA l1 0) with d := IntKind.i64.wrap (g.d - 1) } = _
    rw [hw]
    rfl
  rw [← hc] at R
  exact ⟨_, R, tD_size _ _⟩
theorem RepS.decs : ∀ {l2 : List Nd} {t : TS} {l1 l3 : List Nd} {σ : Int → Sl}, RepS t (l1 ++ l2 ++ l3) σ → (∀ g, g ∈ l2 → 1 ≤ g.d) →
    ∃ τ, RepS ⟨(tA l2).foldl tD t.M, t.f, t.c⟩ (l1 ++ l2.map dN ++ l3) τ ∧ ((tA l2).foldl tD t.M).size = t.M.size
  | [], t, l1, l3, σ, h, _ => ⟨σ, h, rfl⟩
  | g :: l2, t, l1, l3, σ, h, hd => by
    have h : RepS t (l1 ++ g :: (l2 ++ l3)) σ := by simpa using h
    obtain ⟨τ, R, z⟩ := h.dec (hd g List.mem_cons_self)
    have R : RepS ⟨tD t.M g.t, t.f, t.c⟩ ((l1 ++ [dN g]) ++ l2 ++ l3) τ := by simpa using R
    obtain ⟨τ2, R2, z2⟩ := RepS.decs R fun y hy => hd y (List.mem_cons_of_mem _ hy)
    exact ⟨τ2, by simpa [tA] using R2, z2.trans z⟩
end Go.Sx.M

namespace Go.Sx.M
open Go Go.Sx
def swpN (l : List Nd) (i k:Nat) (a b:Int) : List Nd :=
  cnd (Nat.beq i k) ((((l.set i { gN l i with t := b }).set k { gN (l.set i { gN l i with t := b }) k with t := a })).set i { gN ((l.set i { gN l i with t := b }).set k { gN (l.set i { gN l i with t := b }) k with t := a }) i with t := a })
    ((l.set i { gN l i with t := b }).set k { gN (l.set i { gN l i with t := b }) k with t := a })
def swR (z:Int) (l : List Nd) (a b:Int) : Int := cnd (hdT z l a != 0) (hdT z l a) (cnd (hdT z l b != 0) (hdT z l b) 0)
def swL (z:Int) (l : List Nd) (a b:Int) : List Nd := cnd (hdT z l a != 0) l (cnd (hdT z l b != 0) l (swpN l (fnd l a).toNat (fnd l b).toNat a b))
theorem oth_ne {v a b : Int} (h1 : v ≠ a) (h2 : v ≠ b) : f180_0 v a b = v := by simp [f180_0, cnd_eq, h1, h2]
theorem oth_a (a b:Int) : f180_0 a a b = b := by simp [f180_0, cnd_eq]
theorem oth_b {a b : Int} (h : a ≠ b) : f180_0 b a b = a := by simp [f180_0, cnd_eq, h.symm]
theorem tieF_ne {f a b : Int} (h : a ≠ 0) : tieF f a b = f := by unfold tieF; rw [beq_eq_false_iff_ne.2 h]; rfl
theorem end_ne {l : List Nd} {c e : Int} (hc : c ∉ tA l) (he : e = 0 ∨ e ∈ tA l) : c ≠ e ∨ e = 0 :=
  he.elim .inr fun h => .inl fun q => hc (by rw [q]; exact h)
theorem gN_mid (l1 l2 : List Nd) (g : Nd) : gN (l1 ++ g :: l2) l1.length = g := by
  simp [gN, List.getD]
theorem RepS.sw_core {t : TS} {l l' : List Nd} {σ τ : Int → Sl} {a b : Int} {p1 n1 p2 n2 : Int} (h : RepS t l σ) (ha : slOK t.M.size a) (hb : slOK t.M.size b) (hab : a ≠ b) (hnd : (tA l').Nodup)
    (hset : ∀ c, c ∈ tA l ↔ c ∈ tA l') (hma : a ∈ tA l) (hmb : b ∈ tA l) (hok : ∀ x, x ∈ l' → NdOk t.M.size x) (hlen : l'.length = l.length)
    (o1 : f180_0 (Go.Sx.M.ld t.M a).p a b = p1) (o2 : f180_0 (Go.Sx.M.ld t.M a).x a b = n1) (o3 : f180_0 (Go.Sx.M.ld t.M b).p a b = p2) (o4 : f180_0 (Go.Sx.M.ld t.M b).x a b = n2)
    (i1 : p1 = 0 ∨ p1 ∈ tA l') (i2 : n1 = 0 ∨ n1 ∈ tA l') (i3 : p2 = 0 ∨ p2 ∈ tA l') (i4 : n2 = 0 ∨ n2 ∈ tA l')
    (hf : swF4 t a b = hdA l' 0)
    (hτ : τ = tieA (tieA (tieA (tieA (setA (setA σ a (σ b)) b (σ a)) p1 b) b n1) p2 a) a n2) (hdl : DL τ 0 l' 0) :
    RepS ⟨swM4 t a b, swF4 t a b, t.c⟩ l' τ ∧ (swM4 t a b).size = t.M.size := by
  have okm : ∀ c, c = 0 ∨ c ∈ tA l' → c = 0 ∨ slOK t.M.size c := fun c hc => hc.imp id fun hc => by
    obtain ⟨x, hx, rfl⟩ := mem_tA.1 hc
    exact (hok x hx).at_
  obtain ⟨ka, kar⟩ := h.E.ok a ha
  obtain ⟨kb, kbr⟩ := h.E.ok b hb
  have la := (h.E.ld ha).1
  have lb := (h.E.ld hb).1
  obtain ⟨E1, _, z1⟩ := h.E.st ha kb kbr
  obtain ⟨E2, _, z2⟩ := E1.st (a := b) (by rw [z1]; exact hb) ka kar
  have eM0 : swM0 t a b = stM (stM t.M a (σ b)) b (σ a) := by unfold swM0; rw [la, lb]
  rw [← eM0] at E2 z2
  have s0 : (swM0 t a b).size = t.M.size := z2.trans z1
  obtain ⟨E3, z3⟩ := E2.tie (a := p1) (b := b) (by rw [s0]; exact okm _ i1) (by rw [s0]; exact .inr hb)
  have eM1 : swM1 t a b = tieM (swM0 t a b) p1 b := by unfold swM1; rw [o1]
  rw [← eM1] at E3 z3
  have s1 := z3.trans s0
  obtain ⟨E4, z4⟩ := E3.tie (a := b) (b := n1) (by rw [s1]; exact .inr hb) (by rw [s1]; exact okm _ i2)
  have eM2 : swM2 t a b = tieM (swM1 t a b) b n1 := by unfold swM2; rw [o2]
  rw [← eM2] at E4 z4
  have s2 := z4.trans s1
  obtain ⟨E5, z5⟩ := E4.tie (a := p2) (b := a) (by rw [s2]; exact okm _ i3) (by rw [s2]; exact .inr ha)
  have eM3 : swM3 t a b = tieM (swM2 t a b) p2 a := by unfold swM3; rw [o3]
  rw [← eM3] at E5 z5
  have s3 := z5.trans s2
  obtain ⟨E6, z6⟩ := E5.tie (a := a) (b := n2) (by rw [s3]; exact .inr ha) (by rw [s3]; exact okm _ i4)
  have eM4 : swM4 t a b = tieM (swM3 t a b) a n2 := by unfold swM4; rw [o4]
  rw [← eM4] at E6 z6
  have s4 := z6.trans s3
  subst hτ
  refine ⟨⟨E6, hf, ?_, hnd, ?_, hdl, ?_⟩, s4⟩
  · show t.c = _
    rw [h.c, hlen]
  · intro x hx
    show NdOk (swM4 t a b).size x
    rw [s4]
    exact hok x hx
  · intro c hc hs
    have hs : slOK (swM4 t a b).size c := hs
    rw [s4] at hs
    have ca : c ≠ a := fun e => hc ((hset c).1 (by rw [e]; exact hma))
    have cb : c ≠ b := fun e => hc ((hset c).1 (by rw [e]; exact hmb))
    rw [tieA_other (.inl ca) (end_ne hc i4), tieA_other (end_ne hc i3) (.inl ca), tieA_other (.inl cb) (end_ne hc i2), tieA_other (end_ne hc i1) (.inl cb), setA_other cb, setA_other ca]
    exact h.out c (fun e => hc ((hset c).1 e)) hs
set_option maxHeartbeats 1000000 in
theorem RepS.sw1 {t : TS} {l1 m l2 : List Nd} {x y : Nd} {σ : Int → Sl} (h : RepS t ((((l1 ++ [x]) ++ m) ++ [y]) ++ l2) σ) :
    ∃ τ, RepS ⟨swM4 t x.t y.t, swF4 t x.t y.t, t.c⟩ ((((l1 ++ [{ x with t := y.t }]) ++ m) ++ [{ y with t := x.t }]) ++ l2) τ ∧ (swM4 t x.t y.t).size = t.M.size := by
  obtain ⟨d4, dl, a4⟩ := nod2.1 h.nd
  obtain ⟨d3, dy, a3⟩ := nod2.1 d4
  obtain ⟨d2, dm, a2⟩ := nod2.1 d3
  obtain ⟨d1, dx, a1⟩ := nod2.1 d2
  obtain ⟨o4, ol⟩ := z2.1 h.z0
  obtain ⟨o3, oy⟩ := z2.1 o4
  obtain ⟨o2, om⟩ := z2.1 o3
  obtain ⟨o1, ox⟩ := z2.1 o2
  obtain ⟨⟨⟨a1l, axl⟩, aml⟩, ayl⟩ : ((Ap l1 l2 ∧ Ap [x] l2) ∧ Ap m l2) ∧ Ap [y] l2 := by
    have := Ap_l.1 a4; obtain ⟨q, r⟩ := this; have := Ap_l.1 q; obtain ⟨q, s⟩ := this; exact ⟨⟨Ap_l.1 q, s⟩, r⟩
  obtain ⟨⟨a1y, axy⟩, amy⟩ : (Ap l1 [y] ∧ Ap [x] [y]) ∧ Ap m [y] := by
    have := Ap_l.1 a3; obtain ⟨q, r⟩ := this; exact ⟨Ap_l.1 q, r⟩
  obtain ⟨a1m, axm⟩ := Ap_l.1 a2
  have a1x : Ap l1 [x] := a1
  have hxm : x ∈ (((l1 ++ [x]) ++ m) ++ [y]) ++ l2 := by simp
  have hym : y ∈ (((l1 ++ [x]) ++ m) ++ [y]) ++ l2 := by simp
  have okx := h.ok x hxm
  have oky := h.ok y hym
  have mem1 : ∀ (z : Nd), z.t ∈ tA [z] := fun z => by simp [tA]
  have hab : x.t ≠ y.t := axy x.t (mem1 x) y.t (mem1 y)
  -- what stands in the two slots
  obtain ⟨q4, ql⟩ := DL_app.1 h.dl
  obtain ⟨q3, qy⟩ := DL_app.1 q4
  obtain ⟨q2, qm⟩ := DL_app.1 q3
  obtain ⟨q1, qx⟩ := DL_app.1 q2
  obtain ⟨qx, _⟩ := qx
  obtain ⟨qy, _⟩ := qy
  have la := (h.E.ld okx.at_).1
  have lb := (h.E.ld oky.at_).1
  -- the four ends
  have hp1 : (Go.Sx.M.ld t.M x.t).p = lsA l1 0 := by rw [la, qx]; rfl
  have hn1 : (Go.Sx.M.ld t.M x.t).x = hdA (m ++ [y]) 0 := by
    rw [la, qx]
    show hdA m (hdA [y] (hdA l2 0)) = _
    rw [hdA_app]
    rfl
  have hp2 : (Go.Sx.M.ld t.M y.t).p = lsA (x :: m) 0 := by
    rw [lb, qy]
    show lsA ((l1 ++ [x]) ++ m) 0 = _
    rw [lsA_app, lsA_app]
    rfl
  have hn2 : (Go.Sx.M.ld t.M y.t).x = hdA l2 0 := by rw [lb, qy]; rfl
  have nx0 : x.t ≠ 0 := okx.nz
  have ny0 : y.t ≠ 0 := oky.nz
  have nin1 : ∀ {k : List Nd} {e : Int}, Ap k [x] → Ap k [y] → (e = 0 ∨ e ∈ tA k) → e ≠ x.t ∧ e ≠ y.t := by
    intro k e h1 h2 he
    refine ⟨fun q => ?_, fun q => ?_⟩
    · rcases he with he | he
      · exact nx0 (by rw [← q]; exact he)
      · exact h1 e he x.t (mem1 x) q
    · rcases he with he | he
      · exact ny0 (by rw [← q]; exact he)
      · exact h2 e he y.t (mem1 y) q
  have oo1 : f180_0 (Go.Sx.M.ld t.M x.t).p x.t y.t = lsA l1 0 := by
    rw [hp1]
    obtain ⟨u, v⟩ := nin1 a1x a1y (lsA_in l1)
    exact oth_ne u v
  have oo2 : f180_0 (Go.Sx.M.ld t.M x.t).x x.t y.t = hdA (m ++ [{ y with t := x.t }]) 0 := by
    rw [hn1]
    by_cases em : m = []
    · subst em
      exact oth_b hab
    · have e1 : hdA (m ++ [y]) 0 = hdA m 0 := by
        cases m with
        | nil => exact absurd rfl em
        | cons _ _ => rfl
      have e2 : hdA (m ++ [{ y with t := x.t }]) 0 = hdA m 0 := by
        cases m with
        | nil => exact absurd rfl em
        | cons _ _ => rfl
      rw [e1, e2]
      obtain ⟨u, v⟩ := nin1 axm.symm amy (hdA_in m)
      exact oth_ne u v
  have oo3 : f180_0 (Go.Sx.M.ld t.M y.t).p x.t y.t = lsA ({ x with t := y.t } :: m) 0 := by
    rw [hp2]
    by_cases em : m = []
    · subst em
      exact oth_a _ _
    · have e1 : lsA (x :: m) 0 = lsA m 0 := lsA_p em
      have e2 : lsA ({ x with t := y.t } :: m) 0 = lsA m 0 := lsA_p em
      rw [e1, e2]
      obtain ⟨u, v⟩ := nin1 axm.symm amy (lsA_in m)
      exact oth_ne u v
  have oo4 : f180_0 (Go.Sx.M.ld t.M y.t).x x.t y.t = hdA l2 0 := by
    rw [hn2]
    obtain ⟨u, v⟩ := nin1 axl.symm ayl.symm (hdA_in l2)
    exact oth_ne u v
  -- the new list
  have b1x : Ap l1 [{ x with t := y.t }] := a1y
  have bxm : Ap [{ x with t := y.t }] m := amy.symm
  have bmy : Ap m [{ y with t := x.t }] := axm.symm
  have b1y : Ap l1 [{ y with t := x.t }] := a1x
  have bxy : Ap [{ x with t := y.t }] [{ y with t := x.t }] := axy.symm
  have bxl : Ap [{ x with t := y.t }] l2 := ayl
  have byl : Ap [{ y with t := x.t }] l2 := axl
  have n2 : (tA (l1 ++ [{ x with t := y.t }])).Nodup := nod2.2 ⟨d1, dy, b1x⟩
  have n3 : (tA ((l1 ++ [{ x with t := y.t }]) ++ m)).Nodup := nod2.2 ⟨n2, dm, Ap_l.2 ⟨a1m, bxm⟩⟩
  have n4 : (tA (((l1 ++ [{ x with t := y.t }]) ++ m) ++ [{ y with t := x.t }])).Nodup := nod2.2 ⟨n3, dx, Ap_l.2 ⟨Ap_l.2 ⟨b1y, bxy⟩, bmy⟩⟩
  have n5 : (tA ((((l1 ++ [{ x with t := y.t }]) ++ m) ++ [{ y with t := x.t }]) ++ l2)).Nodup := nod2.2 ⟨n4, dl, Ap_l.2 ⟨Ap_l.2 ⟨Ap_l.2 ⟨a1l, bxl⟩, aml⟩, byl⟩⟩
  have z5 : (0:Int) ∉ tA ((((l1 ++ [{ x with t := y.t }]) ++ m) ++ [{ y with t := x.t }]) ++ l2) := z2.2 ⟨z2.2 ⟨z2.2 ⟨z2.2 ⟨o1, oy⟩, om⟩, ox⟩, ol⟩
  have hset : ∀ c, c ∈ tA ((((l1 ++ [x]) ++ m) ++ [y]) ++ l2) ↔ c ∈ tA ((((l1 ++ [{ x with t := y.t }]) ++ m) ++ [{ y with t := x.t }]) ++ l2) := by
    intro c
    simp only [tA_app, List.mem_append]
    simp only [tA, List.map_cons, List.map_nil, List.mem_singleton]
    grind
  have same : ∀ {k : List Nd}, Ap [x] k → Ap [y] k → ∀ z, z ∈ k → setA (setA σ x.t (σ y.t)) y.t (σ x.t) z.t = σ z.t := by
    intro k h1 h2 z hz
    have hm : z.t ∈ tA k := mem_tA.2 ⟨z, hz, rfl⟩
    rw [setA_other fun e => h2 y.t (mem1 y) z.t hm e.symm, setA_other fun e => h1 x.t (mem1 x) z.t hm e.symm]
  have D := DL_sw1 (τ := setA (setA σ x.t (σ y.t)) y.t (σ x.t)) (x := { x with t := y.t }) (y := { y with t := x.t }) (px := lsA l1 0) (nx := hdA (m ++ [y]) 0) (py := lsA (x :: m) 0) (ny := hdA l2 0) n5 z5
    (DL_congr (same a1x.symm a1y.symm) q1) ⟨by
      show setA (setA σ x.t (σ y.t)) y.t (σ x.t) y.t = sN x (hdA (m ++ [y]) 0) (lsA l1 0)
      rw [setA_same, ← la, ← hn1, ← hp1, la, qx]
      rfl, trivial⟩
    (DL_congr (same axm amy.symm) qm) ⟨by
      show setA (setA σ x.t (σ y.t)) y.t (σ x.t) x.t = sN y (hdA l2 0) (lsA (x :: m) 0)
      rw [setA_other hab, setA_same, ← lb, ← hn2, ← hp2, lb, qy]
      rfl, trivial⟩
    (DL_congr (same axl ayl) ql)
  have memr : ∀ {k : List Nd}, (∀ z, z ∈ k → z ∈ (((l1 ++ [{ x with t := y.t }]) ++ m) ++ [{ y with t := x.t }]) ++ l2) → ∀ {e : Int}, (e = 0 ∨ e ∈ tA k) → (e = 0 ∨ e ∈ tA ((((l1 ++ [{ x with t := y.t }]) ++ m) ++ [{ y with t := x.t }]) ++ l2)) := by
    intro k hk e he
    refine he.imp id fun he => ?_
    obtain ⟨z, hz, rfl⟩ := mem_tA.1 he
    exact mem_tA.2 ⟨z, hk z hz, rfl⟩
  refine ⟨_, RepS.sw_core h okx.at_ oky.at_ hab n5 hset (mem_tA.2 ⟨x, hxm, rfl⟩) (mem_tA.2 ⟨y, hym, rfl⟩) ?_ (by simp) oo1 oo2 oo3 oo4
    (memr (by intro z hz; simp [hz]) (lsA_in l1)) (memr (by intro z hz; simp at hz ⊢; grind) (hdA_in (m ++ [{ y with t := x.t }]))) (memr (by intro z hz; simp at hz ⊢; grind) (lsA_in ({ x with t := y.t } :: m))) (memr (by intro z hz; simp [hz]) (hdA_in l2)) ?_ rfl D⟩
  · intro z hz
    simp only [List.mem_append, List.mem_singleton] at hz
    rcases hz with (((hz | rfl) | hz) | rfl) | hz
    · exact h.ok z (by simp [hz])
    · exact ⟨oky.at_, oky.nz, okx.k, okx.R, okx.r, okx.d0, okx.d1⟩
    · exact h.ok z (by simp [hz])
    · exact ⟨okx.at_, okx.nz, oky.k, oky.R, oky.r, oky.d0, oky.d1⟩
    · exact h.ok z (by simp [hz])
  · have nls : lsA ({ x with t := y.t } :: m) 0 ≠ 0 := by
      intro e
      rcases List.eq_nil_or_concat m with rfl | ⟨m', w, rfl⟩
      · exact ny0 e
      · have : lsA ({ x with t := y.t } :: (m' ++ [w])) 0 = w.t := by
          show lsA (m' ++ [w]) y.t = _
          rw [lsA_app]
          rfl
        simp only [List.concat_eq_append] at e
        rw [this] at e
        exact (h.ok w (by simp)).nz e
    unfold swF4 swF3 swF2 swF1
    rw [oo1, oo2, oo3, oo4, tieF_ne nx0, tieF_ne nls, tieF_ne ny0]
    have ok1 : ∀ z, z ∈ l1 → NdOk t.M.size z := fun z hz => h.ok z (by simp [hz])
    have := tieF_hd (n := t.M.size) (l1 := l1) (l2 := [{ x with t := y.t }]) (f := t.f) ok1 fun e => by
      rw [h.f]
      cases l1 with
      | nil => exact absurd rfl e
      | cons _ _ => rfl
    have this : tieF t.f (lsA l1 0) y.t = hdA (l1 ++ [{ x with t := y.t }]) 0 := this
    rw [this]
    cases l1 <;> rfl
set_option maxHeartbeats 1000000 in
theorem RepS.sw2 {t : TS} {l1 m l2 : List Nd} {x y : Nd} {σ : Int → Sl} (h : RepS t ((((l1 ++ [y]) ++ m) ++ [x]) ++ l2) σ) :
    ∃ τ, RepS ⟨swM4 t x.t y.t, swF4 t x.t y.t, t.c⟩ ((((l1 ++ [{ y with t := x.t }]) ++ m) ++ [{ x with t := y.t }]) ++ l2) τ ∧ (swM4 t x.t y.t).size = t.M.size := by
  obtain ⟨d4, dl, a4⟩ := nod2.1 h.nd
  obtain ⟨d3, dx, a3⟩ := nod2.1 d4
  obtain ⟨d2, dm, a2⟩ := nod2.1 d3
  obtain ⟨d1, dy, a1⟩ := nod2.1 d2
  obtain ⟨o4, ol⟩ := z2.1 h.z0
  obtain ⟨o3, ox⟩ := z2.1 o4
  obtain ⟨o2, om⟩ := z2.1 o3
  obtain ⟨o1, oy⟩ := z2.1 o2
  obtain ⟨⟨⟨a1l, ayl⟩, aml⟩, axl⟩ : ((Ap l1 l2 ∧ Ap [y] l2) ∧ Ap m l2) ∧ Ap [x] l2 := by
    have := Ap_l.1 a4; obtain ⟨q, r⟩ := this; have := Ap_l.1 q; obtain ⟨q, s⟩ := this; exact ⟨⟨Ap_l.1 q, s⟩, r⟩
  obtain ⟨⟨a1x, ayx⟩, amx⟩ : (Ap l1 [x] ∧ Ap [y] [x]) ∧ Ap m [x] := by
    have := Ap_l.1 a3; obtain ⟨q, r⟩ := this; exact ⟨Ap_l.1 q, r⟩
  obtain ⟨a1m, aym⟩ := Ap_l.1 a2
  have a1y : Ap l1 [y] := a1
  have hxm : x ∈ (((l1 ++ [y]) ++ m) ++ [x]) ++ l2 := by simp
  have hym : y ∈ (((l1 ++ [y]) ++ m) ++ [x]) ++ l2 := by simp
  have okx := h.ok x hxm
  have oky := h.ok y hym
  have mem1 : ∀ (z : Nd), z.t ∈ tA [z] := fun z => by simp [tA]
  have hab : x.t ≠ y.t := fun e => ayx y.t (mem1 y) x.t (mem1 x) e.symm
  obtain ⟨q4, ql⟩ := DL_app.1 h.dl
  obtain ⟨q3, qx⟩ := DL_app.1 q4
  obtain ⟨q2, qm⟩ := DL_app.1 q3
  obtain ⟨q1, qy⟩ := DL_app.1 q2
  obtain ⟨qx, _⟩ := qx
  obtain ⟨qy, _⟩ := qy
  have la := (h.E.ld okx.at_).1
  have lb := (h.E.ld oky.at_).1
  have hp2 : (Go.Sx.M.ld t.M y.t).p = lsA l1 0 := by rw [lb, qy]; rfl
  have hn2 : (Go.Sx.M.ld t.M y.t).x = hdA (m ++ [x]) 0 := by
    rw [lb, qy]
    show hdA m (hdA [x] (hdA l2 0)) = _
    rw [hdA_app]
    rfl
  have hp1 : (Go.Sx.M.ld t.M x.t).p = lsA (y :: m) 0 := by
    rw [la, qx]
    show lsA ((l1 ++ [y]) ++ m) 0 = _
    rw [lsA_app, lsA_app]
    rfl
  have hn1 : (Go.Sx.M.ld t.M x.t).x = hdA l2 0 := by rw [la, qx]; rfl
  have nx0 : x.t ≠ 0 := okx.nz
  have ny0 : y.t ≠ 0 := oky.nz
  have nin1 : ∀ {k : List Nd} {e : Int}, Ap k [x] → Ap k [y] → (e = 0 ∨ e ∈ tA k) → e ≠ x.t ∧ e ≠ y.t := by
    intro k e h1 h2 he
    refine ⟨fun q => ?_, fun q => ?_⟩
    · rcases he with he | he
      · exact nx0 (by rw [← q]; exact he)
      · exact h1 e he x.t (mem1 x) q
    · rcases he with he | he
      · exact ny0 (by rw [← q]; exact he)
      · exact h2 e he y.t (mem1 y) q
  have oo3 : f180_0 (Go.Sx.M.ld t.M y.t).p x.t y.t = lsA l1 0 := by
    rw [hp2]
    obtain ⟨u, v⟩ := nin1 a1x a1y (lsA_in l1)
    exact oth_ne u v
  have oo4 : f180_0 (Go.Sx.M.ld t.M y.t).x x.t y.t = hdA (m ++ [{ x with t := y.t }]) 0 := by
    rw [hn2]
    by_cases em : m = []
    · subst em
      exact oth_a _ _
    · have e1 : hdA (m ++ [x]) 0 = hdA m 0 := by
        cases m with
        | nil => exact absurd rfl em
        | cons _ _ => rfl
      have e2 : hdA (m ++ [{ x with t := y.t }]) 0 = hdA m 0 := by
        cases m with
        | nil => exact absurd rfl em
        | cons _ _ => rfl
      rw [e1, e2]
      obtain ⟨u, v⟩ := nin1 amx aym.symm (hdA_in m)
      exact oth_ne u v
  have oo1 : f180_0 (Go.Sx.M.ld t.M x.t).p x.t y.t = lsA ({ y with t := x.t } :: m) 0 := by
    rw [hp1]
    by_cases em : m = []
    · subst em
      exact oth_b hab
    · have e1 : lsA (y :: m) 0 = lsA m 0 := lsA_p em
      have e2 : lsA ({ y with t := x.t } :: m) 0 = lsA m 0 := lsA_p em
      rw [e1, e2]
      obtain ⟨u, v⟩ := nin1 amx aym.symm (lsA_in m)
      exact oth_ne u v
  have oo2 : f180_0 (Go.Sx.M.ld t.M x.t).x x.t y.t = hdA l2 0 := by
    rw [hn1]
    obtain ⟨u, v⟩ := nin1 axl.symm ayl.symm (hdA_in l2)
    exact oth_ne u v
  have b1y : Ap l1 [{ y with t := x.t }] := a1x
  have bym : Ap [{ y with t := x.t }] m := amx.symm
  have bmx : Ap m [{ x with t := y.t }] := aym.symm
  have b1x : Ap l1 [{ x with t := y.t }] := a1y
  have byx : Ap [{ y with t := x.t }] [{ x with t := y.t }] := ayx.symm
  have byl : Ap [{ y with t := x.t }] l2 := axl
  have bxl : Ap [{ x with t := y.t }] l2 := ayl
  have n2 : (tA (l1 ++ [{ y with t := x.t }])).Nodup := nod2.2 ⟨d1, dx, b1y⟩
  have n3 : (tA ((l1 ++ [{ y with t := x.t }]) ++ m)).Nodup := nod2.2 ⟨n2, dm, Ap_l.2 ⟨a1m, bym⟩⟩
  have n4 : (tA (((l1 ++ [{ y with t := x.t }]) ++ m) ++ [{ x with t := y.t }])).Nodup := nod2.2 ⟨n3, dy, Ap_l.2 ⟨Ap_l.2 ⟨b1x, byx⟩, bmx⟩⟩
  have n5 : (tA ((((l1 ++ [{ y with t := x.t }]) ++ m) ++ [{ x with t := y.t }]) ++ l2)).Nodup := nod2.2 ⟨n4, dl, Ap_l.2 ⟨Ap_l.2 ⟨Ap_l.2 ⟨a1l, byl⟩, aml⟩, bxl⟩⟩
  have z5 : (0:Int) ∉ tA ((((l1 ++ [{ y with t := x.t }]) ++ m) ++ [{ x with t := y.t }]) ++ l2) := z2.2 ⟨z2.2 ⟨z2.2 ⟨z2.2 ⟨o1, ox⟩, om⟩, oy⟩, ol⟩
  have hset : ∀ c, c ∈ tA ((((l1 ++ [y]) ++ m) ++ [x]) ++ l2) ↔ c ∈ tA ((((l1 ++ [{ y with t := x.t }]) ++ m) ++ [{ x with t := y.t }]) ++ l2) := by
    intro c
    simp only [tA_app, List.mem_append]
    simp only [tA, List.map_cons, List.map_nil, List.mem_singleton]
    grind
  have same : ∀ {k : List Nd}, Ap [x] k → Ap [y] k → ∀ z, z ∈ k → setA (setA σ x.t (σ y.t)) y.t (σ x.t) z.t = σ z.t := by
    intro k h1 h2 z hz
    have hm : z.t ∈ tA k := mem_tA.2 ⟨z, hz, rfl⟩
    rw [setA_other fun e => h2 y.t (mem1 y) z.t hm e.symm, setA_other fun e => h1 x.t (mem1 x) z.t hm e.symm]
  have D := DL_sw2 (τ := setA (setA σ x.t (σ y.t)) y.t (σ x.t)) (x := { x with t := y.t }) (y := { y with t := x.t }) (px := lsA (y :: m) 0) (nx := hdA l2 0) (py := lsA l1 0) (ny := hdA (m ++ [x]) 0) n5 z5
    (DL_congr (same a1x.symm a1y.symm) q1) ⟨by
      show setA (setA σ x.t (σ y.t)) y.t (σ x.t) y.t = sN x (hdA l2 0) (lsA (y :: m) 0)
      rw [setA_same, ← la, ← hn1, ← hp1, la, qx]
      rfl, trivial⟩
    (DL_congr (same amx.symm aym) qm) ⟨by
      show setA (setA σ x.t (σ y.t)) y.t (σ x.t) x.t = sN y (hdA (m ++ [x]) 0) (lsA l1 0)
      rw [setA_other hab, setA_same, ← lb, ← hn2, ← hp2, lb, qy]
      rfl, trivial⟩
    (DL_congr (same axl ayl) ql)
  have memr : ∀ {k : List Nd}, (∀ z, z ∈ k → z ∈ (((l1 ++ [{ y with t := x.t }]) ++ m) ++ [{ x with t := y.t }]) ++ l2) → ∀ {e : Int}, (e = 0 ∨ e ∈ tA k) → (e = 0 ∨ e ∈ tA ((((l1 ++ [{ y with t := x.t }]) ++ m) ++ [{ x with t := y.t }]) ++ l2)) := by
    intro k hk e he
    refine he.imp id fun he => ?_
    obtain ⟨z, hz, rfl⟩ := mem_tA.1 he
    exact mem_tA.2 ⟨z, hk z hz, rfl⟩
  refine ⟨_, RepS.sw_core h okx.at_ oky.at_ hab n5 hset (mem_tA.2 ⟨x, hxm, rfl⟩) (mem_tA.2 ⟨y, hym, rfl⟩) ?_ (by simp) oo1 oo2 oo3 oo4
    (memr (by intro z hz; simp at hz ⊢; grind) (lsA_in ({ y with t := x.t } :: m))) (memr (by intro z hz; simp [hz]) (hdA_in l2)) (memr (by intro z hz; simp [hz]) (lsA_in l1)) (memr (by intro z hz; simp at hz ⊢; grind) (hdA_in (m ++ [{ x with t := y.t }]))) ?_ rfl D⟩
  · intro z hz
    simp only [List.mem_append, List.mem_singleton] at hz
    rcases hz with (((hz | rfl) | hz) | rfl) | hz
    · exact h.ok z (by simp [hz])
    · exact ⟨okx.at_, okx.nz, oky.k, oky.R, oky.r, oky.d0, oky.d1⟩
    · exact h.ok z (by simp [hz])
    · exact ⟨oky.at_, oky.nz, okx.k, okx.R, okx.r, okx.d0, okx.d1⟩
    · exact h.ok z (by simp [hz])
  · have nls : lsA ({ y with t := x.t } :: m) 0 ≠ 0 := by
      intro e
      rcases List.eq_nil_or_concat m with rfl | ⟨m', w, rfl⟩
      · exact nx0 e
      · have : lsA ({ y with t := x.t } :: (m' ++ [w])) 0 = w.t := by
          show lsA (m' ++ [w]) x.t = _
          rw [lsA_app]
          rfl
        simp only [List.concat_eq_append] at e
        rw [this] at e
        exact (h.ok w (by simp)).nz e
    unfold swF4 swF3 swF2 swF1
    rw [oo1, oo2, oo3, oo4, tieF_ne nx0, tieF_ne ny0, tieF_ne nls]
    have ok1 : ∀ z, z ∈ l1 → NdOk t.M.size z := fun z hz => h.ok z (by simp [hz])
    have := tieF_hd (n := t.M.size) (l1 := l1) (l2 := [{ y with t := x.t }]) (f := t.f) ok1 fun e => by
      rw [h.f]
      cases l1 with
      | nil => exact absurd rfl e
      | cons _ _ => rfl
    have this : tieF t.f (lsA l1 0) x.t = hdA (l1 ++ [{ y with t := x.t }]) 0 := this
    rw [this]
    cases l1 <;> rfl
theorem swp_same {l1 l2 : List Nd} {x : Nd} : swpN (l1 ++ x :: l2) l1.length l1.length x.t x.t = l1 ++ x :: l2 := by
  have e : ∀ y : Nd, (l1 ++ x :: l2).set l1.length y = l1 ++ y :: l2 := fun y => by
    have := set_mid (l1 := l1) (l2 := l2) (g := x) (x := y) (n := l1.length) rfl
    simpa using this
  have e2 : ∀ y z : Nd, (l1 ++ z :: l2).set l1.length y = l1 ++ y :: l2 := fun y z => by
    have := set_mid (l1 := l1) (l2 := l2) (g := z) (x := y) (n := l1.length) rfl
    simpa using this
  unfold swpN
  have hb : Nat.beq l1.length l1.length = true := by simp
  rw [hb]
  simp only [cnd_t, gN_mid, e2]
theorem swp_two {l1 m l2 : List Nd} {x y : Nd} {a b : Int} : swpN (l1 ++ x :: (m ++ y :: l2)) l1.length (l1 ++ x :: m).length a b = (((l1 ++ [{ x with t := b }]) ++ m) ++ [{ y with t := a }]) ++ l2 := by
  have e2 : ∀ (l1 l2 : List Nd) (y z : Nd), (l1 ++ z :: l2).set l1.length y = l1 ++ y :: l2 := fun l1 l2 y z => by
    have := set_mid (l1 := l1) (l2 := l2) (g := z) (x := y) (n := l1.length) rfl
    simpa using this
  unfold swpN
  have hb : Nat.beq l1.length (l1 ++ x :: m).length = false := by
    cases hh : Nat.beq l1.length (l1 ++ x :: m).length with
    | false => rfl
    | true => have := Nat.eq_of_beq_eq_true hh; simp at this
  rw [hb]
  simp only [cnd_f, gN_mid, e2]
  have hl : (l1 ++ x :: m).length = (l1 ++ { x with t := b } :: m).length := by simp
  have hs : l1 ++ { x with t := b } :: (m ++ y :: l2) = (l1 ++ { x with t := b } :: m) ++ y :: l2 := by simp
  rw [hl, hs, gN_mid, e2]
  simp
theorem swp_two' {l1 m l2 : List Nd} {x y : Nd} {a b : Int} : swpN (l1 ++ y :: (m ++ x :: l2)) (l1 ++ y :: m).length l1.length a b = (((l1 ++ [{ y with t := a }]) ++ m) ++ [{ x with t := b }]) ++ l2 := by
  have e2 : ∀ (l1 l2 : List Nd) (y z : Nd), (l1 ++ z :: l2).set l1.length y = l1 ++ y :: l2 := fun l1 l2 y z => by
    have := set_mid (l1 := l1) (l2 := l2) (g := z) (x := y) (n := l1.length) rfl
    simpa using this
  unfold swpN
  have hb : Nat.beq (l1 ++ y :: m).length l1.length = false := by
    cases hh : Nat.beq (l1 ++ y :: m).length l1.length with
    | false => rfl
    | true => have := Nat.eq_of_beq_eq_true hh; simp at this
  rw [hb]
  simp only [cnd_f]
  have hs : l1 ++ y :: (m ++ x :: l2) = (l1 ++ y :: m) ++ x :: l2 := by simp
  rw [hs, gN_mid, e2]
  have hs2 : (l1 ++ y :: m) ++ { x with t := b } :: l2 = l1 ++ y :: (m ++ { x with t := b } :: l2) := by simp
  rw [hs2, gN_mid, e2]
  simp
theorem RepS.swap {t : TS} {l : List Nd} {σ : Int → Sl} (h : RepS t l σ) {a b : Int} (hua : U64 a) (hub : U64 b) :
    swE t a b = swR t.M.size l a b ∧ (∃ τ, RepS (swT t a b) (swL t.M.size l a b) τ) ∧ (swT t a b).M.size = t.M.size := by
  have e1 := h.hdE hua
  have e2 := h.hdE hub
  unfold swE swT swR swL
  rw [e1, e2]
  by_cases hz1 : hdT t.M.size l a = 0
  · have hb1 : (hdT t.M.size l a != 0) = false := by simp [hz1]
    simp only [hb1, mrgM_f, cnd_f]
    by_cases hz2 : hdT t.M.size l b = 0
    · have hb2 : (hdT t.M.size l b != 0) = false := by simp [hz2]
      simp only [hb2, cnd_f]
      obtain ⟨l1, lr, x, hl, hx, hfx, _, _, _, _⟩ := h.at_ hua hz1
      by_cases hab : a = b
      · have hbt : (a == b) = true := by simp [hab]
        simp only [hbt, mrgM_t, cnd_t]
        rw [← hab, hfx, hl]
        have := swp_same (l1 := l1) (l2 := lr) (x := x)
        rw [hx] at this
        refine ⟨by rw [hab, ← hl]; exact hz2, ⟨σ, ?_⟩, trivial⟩
        have hc : ((l1.length:Int)).toNat = l1.length := by simp
        rw [hc, this, ← hl]
        exact h
      · have hbf : (a == b) = false := by simp [hab]
        simp only [hbf, mrgM_f, cnd_f]
        obtain ⟨k1, kr, y, hk, hy, hfy, _, _, _, _⟩ := h.at_ hub hz2
        have hc : ∀ n : Nat, ((n:Int)).toNat = n := fun n => by simp
        rw [hfx, hfy, hc, hc]
        subst hx hy
        have hlk : l1 ++ x :: lr = k1 ++ y :: kr := hl.symm.trans hk
        rcases List.append_eq_append_iff.1 hlk with ⟨a', ha1, ha2⟩ | ⟨c', hc1, hc2⟩
        · cases a' with
          | nil =>
            simp at ha2
            exact absurd (by rw [ha2.1]) hab
          | cons z m =>
            simp at ha2
            obtain ⟨rfl, rfl⟩ := ha2
            subst hl
            rw [ha1, swp_two]
            have h' : RepS t ((((l1 ++ [x]) ++ m) ++ [y]) ++ kr) σ := by simpa using h
            obtain ⟨τ, R, z⟩ := RepS.sw1 h'
            exact ⟨trivial, ⟨τ, R⟩, z⟩
        · cases c' with
          | nil =>
            simp at hc2
            exact absurd (by rw [hc2.1]) hab
          | cons z m =>
            simp at hc2
            obtain ⟨rfl, rfl⟩ := hc2
            subst hk
            rw [hc1, swp_two']
            have h' : RepS t ((((k1 ++ [y]) ++ m) ++ [x]) ++ lr) σ := by simpa using h
            obtain ⟨τ, R, z⟩ := RepS.sw2 h'
            exact ⟨trivial, ⟨τ, R⟩, z⟩
    · have hb2 : (hdT t.M.size l b != 0) = true := by simp [hz2]
      simp only [hb2, mrgM_t, cnd_t]
      exact ⟨trivial, ⟨σ, h⟩, trivial⟩
  · have hb1 : (hdT t.M.size l a != 0) = true := by simp [hz1]
    simp only [hb1, mrgM_t, cnd_t]
    exact ⟨trivial, ⟨σ, h⟩, trivial⟩
end Go.Sx.M

namespace Go.Sx.M
open Go Go.Sx Go.Proofs Go.RowKit
noncomputable def chF (M : Mem) : Nat → Int → List Int
  | 0, _ => []
  | n + 1, a => if a = 0 then [] else a :: chF M n (ld M a).x
noncomputable def blF (M : Mem) (d:Int) : Nat → Int → List Int
  | 0, _ => []
  | n + 1, a => if a = 0 then [] else if hdE M a ≠ 0 ∨ (ld M a).d ≤ d then [] else a :: blF M d n (ld M a).x
noncomputable def blw (M : Mem) (c a:Int) : List Int := if hdE M a ≠ 0 then [] else blF M (ld M a).d (c + 1).toNat (ld M a).x
theorem chF_succ (M : Mem) (n:Nat) (a:Int) : chF M (n + 1) a = if a = 0 then [] else a :: chF M n (ld M a).x := rfl
theorem blF_succ (M : Mem) (d:Int) (n:Nat) (a:Int) : blF M d (n + 1) a = if a = 0 then [] else if hdE M a ≠ 0 ∨ (ld M a).d ≤ d then [] else a :: blF M d n (ld M a).x := rfl
theorem chF_stop {M : Mem} {n : Nat} {a : Int} (h : a = 0 ∨ n = 0) : chF M n a = [] := by
  cases n with
  | zero => rfl
  | succ n => rw [chF_succ, if_pos (h.resolve_right (by omega))]
theorem chF_on {M : Mem} {n m : Nat} {a : Int} (h : a ≠ 0) (hn : n = m + 1) : chF M n a = a :: chF M m (ld M a).x := by
  subst hn
  rw [chF_succ, if_neg h]
theorem blF_stop {M : Mem} {d : Int} {n : Nat} {a : Int} (h : a = 0 ∨ n = 0 ∨ (hdE M a ≠ 0 ∨ (ld M a).d ≤ d)) : blF M d n a = [] := by
  cases n with
  | zero => rfl
  | succ n =>
    rw [blF_succ]
    by_cases h0 : a = 0
    · rw [if_pos h0]
    · rw [if_neg h0, if_pos ((h.resolve_left h0).resolve_left (by omega))]
theorem blF_on {M : Mem} {d : Int} {n m : Nat} {a : Int} (h : a ≠ 0) (h2 : ¬ (hdE M a ≠ 0 ∨ (ld M a).d ≤ d)) (hn : n = m + 1) : blF M d n a = a :: blF M d m (ld M a).x := by
  subst hn
  rw [blF_succ, if_neg h, if_neg h2]
theorem app_nil {α : Type} {a b L : List α} (h : a ++ b = L) (hb : b = []) : a = L := by
  rw [← h, hb, List.append_nil]
theorem app_eq {α : Type} {a b b' L : List α} (h : a ++ b = L) (hb : b = b') : a ++ b' = L := by
  rw [← hb]; exact h
theorem blF_len (M : Mem) (d:Int) : ∀ (n:Nat) (a:Int), (blF M d n a).length ≤ n
  | 0, _ => Nat.le_refl _
  | n + 1, a => by
    unfold blF
    split
    · exact Nat.zero_le _
    · split
      · exact Nat.zero_le _
      · exact Nat.succ_le_succ (blF_len M d n _)
theorem blw_len (M : Mem) (c a:Int) : (blw M c a).length ≤ (c + 1).toNat := by
  unfold blw
  split
  · exact Nat.zero_le _
  · exact blF_len _ _ _ _
theorem blF_U {M : Mem} (h : MemR M) (d:Int) : ∀ (n:Nat) {a : Int}, U64 a → ∀ x, x ∈ blF M d n a → U64 x
  | 0, _, _, _, hx => by cases hx
  | n + 1, a, ha, x, hx => by
    unfold blF at hx
    split at hx
    · cases hx
    · split at hx
      · cases hx
      · rcases List.mem_cons.1 hx with rfl | hx
        · exact ha
        · exact blF_U h d n (ld_SlR h _).x x hx
theorem blw_U {M : Mem} (h : MemR M) (c a:Int) : ∀ x, x ∈ blw M c a → U64 x := by
  intro x hx
  unfold blw at hx
  split at hx
  · cases hx
  · exact blF_U h _ _ (ld_SlR h _).x x hx
noncomputable def rmE (t : TS) (a:Int) : Int := hdE t.M a
noncomputable def rmT (t : TS) (a:Int) : TS :=
  ⟨mrgM (hdE t.M a != 0) t.M (tieM (stM ((blw t.M t.c a).foldl tD t.M) a sl0) (ld t.M a).p (ld t.M a).x), cnd (hdE t.M a != 0) t.f (tieF t.f (ld t.M a).p (ld t.M a).x), cnd (hdE t.M a != 0) t.c (IntKind.i64.wrap (t.c - 1))⟩
theorem tDs_R : ∀ {l : List Int} {M : Mem}, MemR M → MemR (l.foldl tD M)
  | [], _, h => h
  | a :: l, M, h => tDs_R (l := l) (tD_MemR h a)
theorem rmT_R {t : TS} (h : TR t) {a : Int} : TR (rmT t a) :=
  ⟨mrg_ind (fun _ => h.1) fun _ => tie_MemR (st_MemR (tDs_R h.1) sl0_R _) (ld_SlR h.1 _).p (ld_SlR h.1 _).x, cnd_ind h.2.1 (tieF_U h.2.1 (ld_SlR h.1 _).x), cnd_ind h.2.2 (wrapI _)⟩
set_option maxRecDepth 100000
def Q75 (L : List Int) (s : S75_0) : Prop := s.N2 = s.n3 ∧ ls s.F2_0 s.n3 = L
theorem l75 {p : P75_0} {s : S75_0} {L : List Int} (hM : MemR p.R1) (hc : p.xh0_2 ≤ 100000) (hu : U64 s.x4) (hs : s.n3 = 0 ∧ s.N2 = 0) (hL : chF p.R1 p.xh0_2.toNat s.x4 = L) : LT (r75_0 p) s ∧ Q75 L (lastS (r75_0 p) s) := by
  refine LT.post (fun s : S75_0 => s.N2 = s.n3 ∧ U64 s.x4 ∧ (s.n3:Int) ≤ max p.xh0_2 0 ∧ ls s.F2_0 s.n3 ++ chF p.R1 (p.xh0_2.toNat - s.n3) s.x4 = L) (Q75 L) (fun s : S75_0 => p.xh0_2.toNat - s.n3) ?_ ?_
  rotate_left
  · refine ⟨by rw [hs.1, hs.2], hu, by rw [hs.1]; omega, ?_⟩
    rw [hs.1]
    exact hL
  rintro ⟨n3, x4, N2, F⟩ ⟨g1, g2, g3, g4⟩
  simp only at g1 g2 g3 g4
  subst g1
  by_cases hc2 : x4 ≠ 0 ∧ (N2:Int) < p.xh0_2
  · have hd : e75_0_0 p ⟨N2, x4, N2, F⟩ = false := by
      show cnd (cnd (x4 != 0) (decide ((N2:Int) < p.xh0_2)) false) false true = false
      rw [bne_iff_ne.2 hc2.1, decide_eq_true hc2.2]; rfl
    obtain ⟨m, hm⟩ : ∃ m, p.xh0_2.toNat - N2 = m + 1 := ⟨p.xh0_2.toNat - N2 - 1, by omega⟩
    have g4 := app_eq g4 (chF_on hc2.1 hm)
    simp only [r75_0, hd, Tr.ok, Tr.get]
    refine ⟨⟨(fun e => by cases e), fun _ => ⟨⟨rfl, Nat.le_refl _, Nat.le_refl _, by show (N2 + 1) * 4096 ≤ _; omega, by show N2 + 1 ≤ _; omega⟩, g2, trivial⟩⟩, .inr ⟨_, rfl, ⟨rfl, (ld_SlR hM _).x, by show ((N2 + 1:Nat):Int) ≤ _; omega, ?_⟩, by show p.xh0_2.toNat - (N2 + 1) < p.xh0_2.toNat - N2; omega⟩⟩
    show ls (fun j => cnd (Nat.blt j N2) (F j) x4) (N2 + 1) ++ chF p.R1 (p.xh0_2.toNat - (N2 + 1)) (ld p.R1 x4).x = L
    rw [ls_push, List.append_assoc, show p.xh0_2.toNat - (N2 + 1) = m by omega]
    exact g4
  · have hd : e75_0_0 p ⟨N2, x4, N2, F⟩ = true := by
      show cnd (cnd (x4 != 0) (decide ((N2:Int) < p.xh0_2)) false) false true = true
      by_cases h0 : x4 = 0
      · rw [h0]; rfl
      · rw [bne_iff_ne.2 h0, decide_eq_false (fun e => hc2 ⟨h0, e⟩)]; rfl
    have g4 := app_nil g4 (chF_stop (by
      by_cases h0 : x4 = 0
      · exact .inl h0
      · have : ¬ ((N2:Int) < p.xh0_2) := fun e => hc2 ⟨h0, e⟩
        exact .inr (by omega)))
    simp only [r75_0, hd, Tr.ok, Tr.get]
    exact ⟨⟨fun _ => trivial, (fun e => by cases e)⟩, .inl ⟨⟨_, _, _, rfl⟩, rfl, g4⟩⟩
def pre75 (v : V75) : Prop := TR (TS.mk v.M v.f v.c) ∧ v.c ≤ 100000
theorem n75 (v : V75) (h : pre75 v) : (f75 v).ok ∧ (f75 v).get.1 = .slc 2 1 0 (chF v.M v.c.toNat v.f).length ∧ HOws (f75 v).get.2.1 [HO.cells 175 [.ptr 1 0, .int .u64 (v.f), .int .i64 (v.c)], HO.res v.M, HO.row 22 1 ((chF v.M v.c.toNat v.f)).length (fun j => [.int .u64 (((chF v.M v.c.toNat v.f)).getD j 0)])] := by
  obtain ⟨⟨h1, h2, h3⟩, h4⟩ := h
  obtain ⟨k1, k2, k3⟩ := l75 (p := P75_0.mk v.f v.c v.M) (s := f75_5 v) h1 h4 h2 ⟨rfl, rfl⟩ rfl
  have k3 : ls (f75_6 v).F2_0 (f75_6 v).n3 = chF v.M v.c.toNat v.f := k3
  have k2 : (f75_6 v).N2 = (f75_6 v).n3 := k2
  have hl : (chF v.M v.c.toNat v.f).length = (f75_6 v).n3 := by rw [← k3, ls_len]
  refine ⟨⟨k1, trivial⟩, ?_, ?_⟩
  · simp only [f75, Tr.get, f75_2, hl]
  · simp only [f75, Tr.get, f75_3, f75_4]
    exact .cons (.inl rfl) (.cons (.inl rfl) (.cons (rowL k2 k3) .nil))
noncomputable def f75n (v : V75) : Tr (Fin th.R) := .need (pre75 v) (.leaf (.slc 2 1 0 (chF v.M v.c.toNat v.f).length, [.cells 175 [.ptr 1 0, .int .u64 (v.f), .int .i64 (v.c)], .res v.M, .row 22 1 ((chF v.M v.c.toNat v.f)).length (fun j => [.int .u64 (((chF v.M v.c.toNat v.f)).getD j 0)])], []))
theorem s75n : Sound Try.prog th 75 (fnC d75 ofV75 f75n) := fnC_refine s75 fun v h => by
  obtain ⟨hp, _⟩ := h
  obtain ⟨a, b, c⟩ := n75 v hp
  exact ⟨a, b.symm, (qdd75 v).symm, c, by show 2 ≤ 3; decide⟩
noncomputable def nice75n : List (Nat × CF th.R) := (75, lift (fnC d75 ofV75 f75n)) :: nice110n
theorem nok75n : NiceOk Try.prog th nice75n := ⟨lift_sound s75n, nok110n⟩
set_option maxRecDepth 100000
def Q58 (L : List Int) (s : S58_0) : Prop := s.N3 = s.n7 ∧ ls s.F3_0 s.n7 = L
theorem l58 {p : P58_0} {s : S58_0} {L : List Int} (hM : MemR p.R1) (hc : p.xh0_2 ≤ 100000) (hu : U64 s.x8) (hs : s.n7 = 0 ∧ s.N3 = 0) (hL : blF p.R1 p.xh2_9 (p.xh0_2 + 1).toNat s.x8 = L) : LT (r58_0 p) s ∧ Q58 L (lastS (r58_0 p) s) := by
  refine LT.post (fun s : S58_0 => s.N3 = s.n7 ∧ U64 s.x8 ∧ s.n7 ≤ (p.xh0_2 + 1).toNat ∧ ls s.F3_0 s.n7 ++ blF p.R1 p.xh2_9 ((p.xh0_2 + 1).toNat - s.n7) s.x8 = L) (Q58 L) (fun s : S58_0 => (p.xh0_2 + 1).toNat - s.n7) ?_ ?_
  rotate_left
  · refine ⟨by rw [hs.1, hs.2], hu, by rw [hs.1]; exact Nat.zero_le _, ?_⟩
    rw [hs.1]
    exact hL
  rintro ⟨n7, x8, N3, F⟩ ⟨g1, g2, g3, g4⟩
  simp only at g1 g2 g3 g4
  subst g1
  by_cases h0 : x8 = 0
  · have hd : e58_0_0 p ⟨N3, x8, N3, F⟩ = true := by
      show cnd (x8 != 0) false true = true
      rw [h0]; rfl
    have g4 := app_nil g4 (blF_stop (.inl h0))
    simp only [r58_0, hd, Tr.ok, Tr.get]
    exact ⟨⟨fun _ => trivial, (fun e => by cases e)⟩, .inl ⟨⟨_, _, _, rfl⟩, rfl, g4⟩⟩
  · have hd : e58_0_0 p ⟨N3, x8, N3, F⟩ = false := by
      show cnd (x8 != 0) false true = false
      rw [bne_iff_ne.2 h0]; rfl
    by_cases hb : (hdE p.R1 x8 ≠ 0 ∨ (ld p.R1 x8).d ≤ p.xh2_9) ∨ (N3:Int) > p.xh0_2
    · have h3 : e58_0_3 p ⟨N3, x8, N3, F⟩ = true := by
        show cnd (cnd (hdE p.R1 x8 != 0) true (decide ((ld p.R1 x8).d ≤ p.xh2_9))) true (decide ((N3:Int) > p.xh0_2)) = true
        simp only [cnd_or, Bool.or_eq_true, bne_iff_ne, decide_eq_true_eq]
        exact hb
      have g4 := app_nil g4 (blF_stop (.inr (hb.elim .inr fun e => .inl (by omega))))
      simp only [r58_0, hd, h3, Tr.ok, Tr.get]
      exact ⟨⟨(fun e => by cases e), fun _ => ⟨g2, fun _ => trivial, (fun e => by cases e)⟩⟩, .inl ⟨⟨_, _, _, rfl⟩, rfl, g4⟩⟩
    · have h3 : e58_0_3 p ⟨N3, x8, N3, F⟩ = false := by
        show cnd (cnd (hdE p.R1 x8 != 0) true (decide ((ld p.R1 x8).d ≤ p.xh2_9))) true (decide ((N3:Int) > p.xh0_2)) = false
        cases hq : cnd (cnd (hdE p.R1 x8 != 0) true (decide ((ld p.R1 x8).d ≤ p.xh2_9))) true (decide ((N3:Int) > p.xh0_2)) with
        | false => rfl
        | true =>
          simp only [cnd_or, Bool.or_eq_true, bne_iff_ne, decide_eq_true_eq] at hq
          exact absurd hq hb
      have hb1 : ¬ (hdE p.R1 x8 ≠ 0 ∨ (ld p.R1 x8).d ≤ p.xh2_9) := fun e => hb (.inl e)
      have hb2 : ¬ ((N3:Int) > p.xh0_2) := fun e => hb (.inr e)
      obtain ⟨m, hm⟩ : ∃ m, (p.xh0_2 + 1).toNat - N3 = m + 1 := ⟨(p.xh0_2 + 1).toNat - N3 - 1, by omega⟩
      have g4 := app_eq g4 (blF_on h0 hb1 hm)
      simp only [r58_0, hd, h3, Tr.ok, Tr.get]
      refine ⟨⟨(fun e => by cases e), fun _ => ⟨g2, (fun e => by cases e), fun _ => ⟨⟨rfl, Nat.le_refl _, Nat.le_refl _, by show (N3 + 1) * 4096 ≤ _; omega, by show N3 + 1 ≤ _; omega⟩, trivial⟩⟩⟩, .inr ⟨_, rfl, ⟨rfl, (ld_SlR hM _).x, by show N3 + 1 ≤ _; omega, ?_⟩, by show (p.xh0_2 + 1).toNat - (N3 + 1) < (p.xh0_2 + 1).toNat - N3; omega⟩⟩
      show ls (fun j => cnd (Nat.blt j N3) (F j) x8) (N3 + 1) ++ blF p.R1 p.xh2_9 ((p.xh0_2 + 1).toNat - (N3 + 1)) (ld p.R1 x8).x = L
      rw [ls_push, List.append_assoc, show (p.xh0_2 + 1).toNat - (N3 + 1) = m by omega]
      exact g4
def pre58 (v : V58) : Prop := U64 v.at_ ∧ TR (TS.mk v.M v.f v.c) ∧ v.c ≤ 100000
theorem n58 (v : V58) (h : pre58 v) : (f58 v).ok ∧ (f58 v).get.1 = .slc 2 1 0 (blw v.M v.c v.at_).length ∧ HOws (f58 v).get.2.1 [HO.cells 175 [.ptr 1 0, .int .u64 (v.f), .int .i64 (v.c)], HO.res v.M, HO.row 22 1 ((blw v.M v.c v.at_)).length (fun j => [.int .u64 (((blw v.M v.c v.at_)).getD j 0)])] := by
  obtain ⟨h0, ⟨h1, h2, h3⟩, h4⟩ := h
  have main : f58_10 v = false → LT (r58_0 (f58_11 v)) (f58_12 v) ∧ Q58 (blw v.M v.c v.at_) (f58_13 v) := fun hz => by
    refine l58 (p := f58_11 v) (s := f58_12 v) h1 h4 (ld_SlR h1 _).x ⟨rfl, rfl⟩ ?_
    unfold blw
    rw [if_neg (by simpa [f58_10] using hz)]
    rfl
  refine ⟨⟨h0, fun hz => (main hz).1, fun _ => trivial, fun _ => trivial⟩, ?_, ?_⟩
  · cases hz : f58_10 v with
    | true =>
      have hb : blw v.M v.c v.at_ = [] := by unfold blw; rw [if_pos (by simpa [f58_10] using hz)]
      have e3 : f58_3 v = true := hz
      simp only [f58, Tr.get, e3, hb]
      rfl
    | false =>
      obtain ⟨_, k2, k3⟩ := main hz
      have e3 : f58_3 v = false := hz
      have hl : (blw v.M v.c v.at_).length = (f58_13 v).n7 := by rw [← k3, ls_len]
      simp only [f58, Tr.get, e3, f58_6, f58_7, cnd_same, hl, f58_15]
  · cases hz : f58_10 v with
    | true =>
      have hb : blw v.M v.c v.at_ = [] := by unfold blw; rw [if_pos (by simpa [f58_10] using hz)]
      have e3 : f58_3 v = true := hz
      simp only [f58, Tr.get, e3, hb]
      exact .cons (.inl rfl) (.cons (.inl rfl) (.cons (.row fun j hj => absurd hj (Nat.not_lt_zero _)) .nil))
    | false =>
      obtain ⟨_, k2, k3⟩ := main hz
      have e3 : f58_3 v = false := hz
      simp only [f58, Tr.get, e3, f58_8, f58_9, cnd_same, f58_16]
      exact .cons (.inl rfl) (.cons (.inl rfl) (.cons (rowL k2 k3) .nil))
noncomputable def f58n (v : V58) : Tr (Fin th.R) := .need (pre58 v) (.leaf (.slc 2 1 0 (blw v.M v.c v.at_).length, [.cells 175 [.ptr 1 0, .int .u64 (v.f), .int .i64 (v.c)], .res v.M, .row 22 1 ((blw v.M v.c v.at_)).length (fun j => [.int .u64 (((blw v.M v.c v.at_)).getD j 0)])], [0, 1]))
theorem s58n : Sound Try.prog th 58 (fnC d58 ofV58 f58n) := fnC_refine s58 fun v h => by
  obtain ⟨hp, _⟩ := h
  obtain ⟨a, b, c⟩ := n58 v hp
  exact ⟨a, b.symm, (qdd58 v).symm, c, by show 2 ≤ 3; decide⟩
noncomputable def nice58n : List (Nat × CF th.R) := (58, lift (fnC d58 ofV58 f58n)) :: nice75n
theorem nok58n : NiceOk Try.prog th nice58n := ⟨lift_sound s58n, nok75n⟩
set_option maxRecDepth 100000
structure V63 where
  at_ : Int
  f : Int
  c : Int
  M : th.R
def A63 (v : V63) : List SV := [.ptr 0 0, .int .u64 v.at_]
def H63 (v : V63) : List (HO th.R) := [.cells 175 [.ptr 1 0, .int .u64 v.f, .int .i64 v.c], .res v.M]
def toV63 (v : V63) : List (Vl th.R) := [.i v.at_, .i v.f, .i v.c, .r v.M]
def ofV63 : List (Vl th.R) → Option V63
  | [.i at_, .i f, .i c, .r M] => some ⟨at_, f, c, M⟩
  | _ => none
def d63 : Ft := ⟨[.ptr 0 0, .int .u64], [.cells 175 [.ptr 1 0, .int .u64, .int .i64], .res]⟩
structure P63_0 where
  x1 : Int
  n20 : Nat
  x21 : Int
  xh0_1 : Int
  xh0_2 : Int
  xh2_0 : Int
  xh2_1 : Int
  xh2_2 : Int
  xh2_3 : Int
  xh2_4 : Int
  xh2_5 : Int
  xh2_6 : Int
  xh2_7 : Int
  xh2_8 : Int
  xh2_9 : Int
  N3 : Nat
  F3_0 : Nat → Int
structure S63_0 where
  x22 : Int
  R1 : th.R
noncomputable instance : Inhabited S63_0 := ⟨⟨0, dR⟩⟩
def I63_0 (p : P63_0) (s : S63_0) : St th.R := ⟨[some (.ptr 0 0), some (.int .u64 p.x1), none, none, none, some (.ptr 2 0), none, none, none, none, none, none, none, none, none, none, none, none, none, none, some (.slc 3 1 0 p.n20), some (.int .i64 p.x21), some (.int .i64 s.x22), none, none, none, none, none, none, none, none, none, none, none, none, none, none, none, none, none, none, none, none, none, none, none, none, none, none], [.cells 175 [.ptr 1 0, .int .u64 p.xh0_1, .int .i64 p.xh0_2], .res s.R1, .cells 40 [.int .i64 p.xh2_0, .int .u64 p.xh2_1, .int .i64 p.xh2_2, .int .i64 p.xh2_3, .int .i64 p.xh2_4, .int .i64 p.xh2_5, .int .u64 p.xh2_6, .int .u64 p.xh2_7, .int .u64 p.xh2_8, .int .i64 p.xh2_9], .row 22 1 p.N3 (fun j => [.int .u64 (p.F3_0 j)])], [], []⟩
def d63_0 : Lp := ⟨⟨49, [(0, .ptr 0 0), (1, .int .u64), (5, .ptr 2 0), (20, .slc0 3 1), (21, .int .i64), (22, .int .i64)], [.cells 175 [.ptr 1 0, .int .u64, .int .i64], .res, .cells 40 [.int .i64, .int .u64, .int .i64, .int .i64, .int .i64, .int .i64, .int .u64, .int .u64, .int .u64, .int .i64], .rowc 22 [.int .u64]]⟩, [], 4, [1], [0, 1, 5], []⟩
def toV63_0 (p : P63_0) (s : S63_0) : List (Vl th.R) := [.i p.x1, .n p.n20, .i p.x21, .i s.x22, .i p.xh0_1, .i p.xh0_2, .r s.R1, .i p.xh2_0, .i p.xh2_1, .i p.xh2_2, .i p.xh2_3, .i p.xh2_4, .i p.xh2_5, .i p.xh2_6, .i p.xh2_7, .i p.xh2_8, .i p.xh2_9, .n p.N3, .c p.F3_0]
def ofV63_0 : List (Vl th.R) → Option (P63_0 × S63_0)
  | [.i x1, .n n20, .i x21, .i x22, .i xh0_1, .i xh0_2, .r R1, .i xh2_0, .i xh2_1, .i xh2_2, .i xh2_3, .i xh2_4, .i xh2_5, .i xh2_6, .i xh2_7, .i xh2_8, .i xh2_9, .n N3, .c F3_0] => some (⟨x1, n20, x21, xh0_1, xh0_2, xh2_0, xh2_1, xh2_2, xh2_3, xh2_4, xh2_5, xh2_6, xh2_7, xh2_8, xh2_9, N3, F3_0⟩, ⟨x22, R1⟩)
  | _ => none
noncomputable def e63_0_8 (p : P63_0) (s : S63_0) : (Nat) := (0:Nat) + s.x22.toNat
noncomputable def e63_0_9 (p : P63_0) (s : S63_0) : (Int) := p.F3_0 (e63_0_8 p s)
noncomputable def e63_0_0 (p : P63_0) (s : S63_0) : (Bool) := cnd (decide (s.x22 < p.x21)) false true
noncomputable def e63_0_1 (p : P63_0) (s : S63_0) : (Prop) := ∀ (i:Nat), scpL (0:Nat) ((fun (j:Nat) => [SV.int IntKind.u64 (p.F3_0 j)]) i) = true
noncomputable def e63_0_2 (p : P63_0) (s : S63_0) : (Prop) := (0:Int) ≤ s.x22 ∧ s.x22 < (↑p.n20:Int)
noncomputable def e63_0_3 (p : P63_0) (s : S63_0) : (Prop) := e63_0_8 p s < p.N3
noncomputable def e63_0_4 (p : P63_0) (s : S63_0) : (Prop) := pre137d (V137d.mk (e63_0_9 p s) p.xh0_1 p.xh0_2 s.R1)
noncomputable def e63_0_5 (p : P63_0) (s : S63_0) : (Prop) := (∀ (i:Nat), scpL (0:Nat) ((fun (j:Nat) => [SV.int IntKind.u64 (p.F3_0 j)]) i) = true) ∧ ∀ (i:Nat), i < p.N3 → (fun (j:Nat) => [SV.int IntKind.u64 (p.F3_0 j)]) i = elC (fun (j:Nat) => [SV.int IntKind.u64 (p.F3_0 j)]) (0:Nat) [Ck.int IntKind.u64] i
noncomputable def e63_0_6 (p : P63_0) (s : S63_0) : (Int) := IntKind.i64.wrap (s.x22 + (1:Int))
noncomputable def e63_0_7 (p : P63_0) (s : S63_0) : (Mem) := tD s.R1 (e63_0_9 p s)
theorem n_e63_0_1 (p : P63_0) (s : S63_0) : e63_0_1 p s := by
  unfold e63_0_1
  (repeat' first | intro _ | apply And.intro) <;> first | rfl | exact absurd (by assumption) (Nat.not_lt_zero _) | exact scpL_rowSet (by rfl) (by rfl) | exact scpL_rowEl (by kernel_rfl) _ | omega | decide
theorem n_e63_0_5 (p : P63_0) (s : S63_0) : e63_0_5 p s := by
  unfold e63_0_5
  (repeat' first | intro _ | apply And.intro) <;> first | rfl | exact absurd (by assumption) (Nat.not_lt_zero _) | exact scpL_rowSet (by rfl) (by rfl) | exact scpL_rowEl (by kernel_rfl) _ | omega | decide
noncomputable def rf63_0 (p : P63_0) (s : S63_0) : Tr (Rs th.R S63_0) := (Tr.ite (e63_0_0 p s) (Tr.need (e63_0_1 p s) (Tr.leaf (Rs.out (Ex.exit (0:Nat)) [(some (SV.ptr (0:Nat) (0:Nat))), some (SV.int .u64 (p.x1)), none, none, none, (some (SV.ptr (2:Nat) (0:Nat))), none, none, none, none, none, none, none, none, none, none, none, none, none, none, none, none, none, none, none, none, none, none, none, none, none, none, none, none, none, none, none, none, none, none, none, none, none, none, none, none, none, none, none] [(HO.cells (175:Nat) [(SV.ptr (1:Nat) (0:Nat)), SV.int .u64 (p.xh0_1), SV.int .i64 (p.xh0_2)]), HO.res (s.R1), (HO.cells (40:Nat) [SV.int .i64 (p.xh2_0), SV.int .u64 (p.xh2_1), SV.int .i64 (p.xh2_2), SV.int .i64 (p.xh2_3), SV.int .i64 (p.xh2_4), SV.int .i64 (p.xh2_5), SV.int .u64 (p.xh2_6), SV.int .u64 (p.xh2_7), SV.int .u64 (p.xh2_8), SV.int .i64 (p.xh2_9)]), (HO.row (22:Nat) (1:Nat) (p.N3) (fun j => [SV.int .u64 (p.F3_0 j)]))]))) (Tr.need (e63_0_2 p s) (Tr.need (e63_0_3 p s) (Tr.need (e63_0_4 p s) (Tr.need (e63_0_5 p s) (Tr.leaf (Rs.on (S63_0.mk ((e63_0_6 p s)) ((e63_0_7 p s))))))))))
noncomputable def r63_0 (p : P63_0) (s : S63_0) : Tr (Rs th.R S63_0) := (Tr.ite (e63_0_0 p s) (Tr.leaf (Rs.out (Ex.exit (0:Nat)) [(some (SV.ptr (0:Nat) (0:Nat))), some (SV.int .u64 (p.x1)), none, none, none, (some (SV.ptr (2:Nat) (0:Nat))), none, none, none, none, none, none, none, none, none, none, none, none, none, none, none, none, none, none, none, none, none, none, none, none, none, none, none, none, none, none, none, none, none, none, none, none, none, none, none, none, none, none, none] [(HO.cells (175:Nat) [(SV.ptr (1:Nat) (0:Nat)), SV.int .u64 (p.xh0_1), SV.int .i64 (p.xh0_2)]), HO.res (s.R1), (HO.cells (40:Nat) [SV.int .i64 (p.xh2_0), SV.int .u64 (p.xh2_1), SV.int .i64 (p.xh2_2), SV.int .i64 (p.xh2_3), SV.int .i64 (p.xh2_4), SV.int .i64 (p.xh2_5), SV.int .u64 (p.xh2_6), SV.int .u64 (p.xh2_7), SV.int .u64 (p.xh2_8), SV.int .i64 (p.xh2_9)]), (HO.row (22:Nat) (1:Nat) (p.N3) (fun j => [SV.int .u64 (p.F3_0 j)]))])) (Tr.need (e63_0_2 p s) (Tr.need (e63_0_3 p s) (Tr.need (e63_0_4 p s) (Tr.leaf (Rs.on (S63_0.mk ((e63_0_6 p s)) ((e63_0_7 p s)))))))))
noncomputable def E63_0 : St th.R → Out th := evCode th Try.prog (auto th Try.prog nice58n [] 20) (autoH [] [] [] [] : Hints th) (lpAt Try.prog 63 0)
theorem B63_0 : CodeSound th Try.prog (lpAt Try.prog 63 0) E63_0 := evCode_sound (T := th) (P := Try.prog) (tbl := (auto th Try.prog nice58n [] 20)) (auto_sound (nice := nice58n) (us := []) nok58n 20) (autoH [] [] [] [] : Hints th) _ (LoopsOk_mem (fun _ => rfl) _ fun b hb L hL => by cases hL)
noncomputable def L63_0 : St th.R → Out th := loopL d63_0 ofV63_0 r63_0
theorem h1_63_0 (p : P63_0) (s : S63_0) : bld d63_0.tm (toV63_0 p s) = some (I63_0 p s) := by kernel_rfl
theorem h2_63_0 (l : List (Vl th.R)) (p : P63_0) (s : S63_0) (h : ofV63_0 l = some (p, s)) : l = toV63_0 p s := by
  unfold ofV63_0 at h
  split at h
  · cases h; rfl
  · cases h
theorem h3_63_0 (p : P63_0) (s : S63_0) : cvE d63_0 (E63_0 (I63_0 p s)) = some ((rf63_0 p s).map (Rs.map (toV63_0 p))) := by kernel_rfl
theorem h3g_63_0 (p : P63_0) (s : S63_0) : (rf63_0 p s).get = (r63_0 p s).get := by kernel_rfl
theorem h4_63_0 (p : P63_0) (s s1 : S63_0) : outH d63_0.dirt d63_0.n0 (r63_0 p s) = repH (maskH d63_0.dirt 0 d63_0.n0 (I63_0 p s1).heap) (r63_0 p s) := by kernel_rfl
theorem ls63_0 : CodeSound th Try.prog (.loop (lpAt Try.prog 63 0)) L63_0 := loopL_sound B63_0 d63_0 I63_0 toV63_0 (by kernel_rfl) h1_63_0 h2_63_0
  (fun p s => ⟨(rf63_0 p s).map (Rs.map (toV63_0 p)), h3_63_0 p s, fun h => by
    rw [Tr.map_ok]
    unfold r63_0 at h; unfold rf63_0
    simp only [Tr.ok, n_e63_0_1, n_e63_0_5, true_and, and_true, forall_const, implies_true] at h ⊢
    try exact h, by rw [Tr.map_get, h3g_63_0 p s]⟩) h4_63_0
theorem ok63 : LoopsOk th Try.prog (autoH [(5, L63_0)] [] [] [] : Hints th) (bodyOf Try.prog 63) := autoH_ok (bs := [lpAt Try.prog 63 0]) (by kernel_rfl) fun b hb L hL => by
  simp only [List.mem_cons, List.not_mem_nil, or_false] at hb
  rcases hb with rfl
  · have e : lookL [(5, L63_0)] (firstReg (lpAt Try.prog 63 0)) = some L63_0 := by kernel_rfl
    rw [e] at hL; cases hL
    exact ls63_0
noncomputable def f63_11 (v : V63) : (Bool) := hdE v.M v.at_ != (0:Int)
noncomputable def f63z0 (v : V63) : S63_0 := lastS (r63_0 (P63_0.mk v.at_ (blw v.M v.c v.at_).length (↑(blw v.M v.c v.at_).length:Int) v.f v.c (ld v.M v.at_).k (ld v.M v.at_).a (ld v.M v.at_).b (ld v.M v.at_).r (ld v.M v.at_).g (ld v.M v.at_).s (ld v.M v.at_).m (ld v.M v.at_).x (ld v.M v.at_).p (ld v.M v.at_).d (blw v.M v.c v.at_).length fun (j:Nat) => (blw v.M v.c v.at_).getD j (0:Int))) (S63_0.mk (0:Int) v.M)
noncomputable def f63_12 (v : V63) : (th.R) := (f63z0 v).R1
noncomputable def f63_13 (v : V63) : (Mem) := stM (f63_12 v) v.at_ sl0
noncomputable def f63_0 (v : V63) : (Prop) := pre132 (V132.mk v.at_ v.f v.c v.M)
noncomputable def f63_1 (v : V63) : (Prop) := f63_11 v = false → pre58 (V58.mk v.at_ v.f v.c v.M)
noncomputable def f63_2 (v : V63) : (Prop) := f63_11 v = false → ∀ (i:Nat), scpL (0:Nat) ((fun (j:Nat) => [SV.int IntKind.u64 ((blw v.M v.c v.at_).getD j (0:Int))]) i) = true
noncomputable def f63_3 (v : V63) : (Prop) := f63_11 v = false → ∀ (i:Nat), i < (blw v.M v.c v.at_).length → (fun (j:Nat) => [SV.int IntKind.u64 ((blw v.M v.c v.at_).getD j (0:Int))]) i = elC (fun (j:Nat) => [SV.int IntKind.u64 ((blw v.M v.c v.at_).getD j (0:Int))]) (0:Nat) [Ck.int IntKind.u64] i
noncomputable def f63_4 (v : V63) : (Prop) := f63_11 v = false → LT (r63_0 (P63_0.mk v.at_ (blw v.M v.c v.at_).length (↑(blw v.M v.c v.at_).length:Int) v.f v.c (ld v.M v.at_).k (ld v.M v.at_).a (ld v.M v.at_).b (ld v.M v.at_).r (ld v.M v.at_).g (ld v.M v.at_).s (ld v.M v.at_).m (ld v.M v.at_).x (ld v.M v.at_).p (ld v.M v.at_).d (blw v.M v.c v.at_).length fun (j:Nat) => (blw v.M v.c v.at_).getD j (0:Int))) (S63_0.mk (0:Int) v.M)
noncomputable def f63_5 (v : V63) : (Prop) := f63_11 v = false → pre94 (V94.mk v.at_ (f63_12 v))
noncomputable def f63_6 (v : V63) : (Prop) := f63_11 v = false → pre136 (V136.mk (ld v.M v.at_).p (ld v.M v.at_).x v.f v.c (f63_13 v))
noncomputable def f63_7 (v : V63) : (Int) := cnd (f63_11 v) (hdE v.M v.at_) (0:Int)
noncomputable def f63_8 (v : V63) : (Int) := cnd (f63_11 v) v.f (tieF v.f (ld v.M v.at_).p (ld v.M v.at_).x)
noncomputable def f63_9 (v : V63) : (Int) := cnd (f63_11 v) v.c (IntKind.i64.wrap (v.c - (1:Int)))
noncomputable def f63_10 (v : V63) : (Mem) := mrgM (f63_11 v) v.M (tieM (f63_13 v) (ld v.M v.at_).p (ld v.M v.at_).x)
theorem n_f63_2 (v : V63) : f63_2 v := by
  unfold f63_2
  (repeat' first | intro _ | apply And.intro) <;> first | rfl | exact absurd (by assumption) (Nat.not_lt_zero _) | exact scpL_rowSet (by rfl) (by rfl) | exact scpL_rowEl (by kernel_rfl) _ | omega | decide
theorem n_f63_3 (v : V63) : f63_3 v := by
  unfold f63_3
  (repeat' first | intro _ | apply And.intro) <;> first | rfl | exact absurd (by assumption) (Nat.not_lt_zero _) | exact scpL_rowSet (by rfl) (by rfl) | exact scpL_rowEl (by kernel_rfl) _ | omega | decide
noncomputable def ff63 (v : V63) : Tr (Fin th.R) := (Tr.need (f63_0 v) (Tr.need (f63_1 v) (Tr.need (f63_2 v) (Tr.need (f63_3 v) (Tr.need (f63_4 v) (Tr.need (f63_5 v) (Tr.need (f63_6 v) (Tr.leaf (SV.int .i64 (f63_7 v), [(HO.cells (175:Nat) [(SV.ptr (1:Nat) (0:Nat)), SV.int .u64 (f63_8 v), SV.int .i64 (f63_9 v)]), HO.res (f63_10 v)], [(0:Nat), (0:Nat), (1:Nat), (1:Nat), (1:Nat), (0:Nat), (1:Nat)])))))))))
noncomputable def f63 (v : V63) : Tr (Fin th.R) := (Tr.need (f63_0 v) (Tr.need (f63_1 v) (Tr.need (f63_4 v) (Tr.need (f63_5 v) (Tr.need (f63_6 v) (Tr.leaf (SV.int .i64 (f63_7 v), [(HO.cells (175:Nat) [(SV.ptr (1:Nat) (0:Nat)), SV.int .u64 (f63_8 v), SV.int .i64 (f63_9 v)]), HO.res (f63_10 v)], [0, 1])))))))
noncomputable def C63 : CF th.R := fnC d63 ofV63 (f63 )
theorem q63 (v : V63) : (evFn th Try.prog (auto th Try.prog nice58n [] 20) (autoH [(5, L63_0)] [] [] [] : Hints th) 63) (A63 v) (H63 v) = some (ff63 v) := by kernel_rfl
theorem qg63 (v : V63) : ((ff63 v).map (setD [0, 1])).get = (f63 v).get := by kernel_rfl
theorem qd63 (v : V63) : allD 2 [0, 1] (ff63 v) = true := by kernel_rfl
theorem s63 : Sound Try.prog th 63 (C63 ) := fnC_sound (evFn_sound' (T := th) (P := Try.prog) (tbl := (auto th Try.prog nice58n [] 20)) (auto_sound (nice := nice58n) (us := []) nok58n 20) (H := (autoH [(5, L63_0)] [] [] [] : Hints th)) (k := 63) (fnLoops ok63)) d63 A63 H63 toV63 (by kernel_rfl) (fun v => by kernel_rfl)
  (fun l v h => by
    unfold ofV63 at h
    split at h
    · cases h; rfl
    · cases h)
  [0, 1] (fun v => ⟨ff63 v, q63 v, fun h => by
    unfold f63 at h; unfold ff63
    simp only [Tr.ok, n_f63_2, n_f63_3, true_and, and_true, forall_const, implies_true] at h ⊢
    try exact h, qg63 v, qd63 v⟩)
theorem qdd63 (v : V63) : (f63 v).get.2.2 = [0, 1] := by
  rw [← qg63, Tr.map_get]; rfl
set_option maxRecDepth 100000
theorem l63 {p : P63_0} {s : S63_0} {L : List Int} {M : Mem} (hM : MemR M) (hL : p.n20 = L.length ∧ p.x21 = L.length ∧ p.N3 = L.length) (hn : L.length ≤ 200000) (hF : ∀ j, p.F3_0 j = L.getD j 0) (hU : ∀ x, x ∈ L → U64 x) (hs : s.x22 = 0 ∧ s.R1 = M) :
    LT (r63_0 p) s ∧ (lastS (r63_0 p) s).R1 = L.foldl tD M := by
  refine LT.post (fun s : S63_0 => ∃ i : Nat, s.x22 = i ∧ i ≤ L.length ∧ s.R1 = (L.take i).foldl tD M) (fun s : S63_0 => s.R1 = L.foldl tD M) (fun s : S63_0 => L.length - s.x22.toNat) ?_ ⟨0, hs.1, Nat.zero_le _, hs.2⟩
  rintro ⟨x22, R⟩ ⟨i, g1, g2, g3⟩
  simp only at g1 g3
  subst g1
  have w2 : IntKind.i64.wrap ((i:Int) + 1) = ((i + 1:Nat):Int) := by rw [wi (by omega) (by omega)]; omega
  have hR : MemR R := by rw [g3]; exact tDs_R hM
  by_cases hc : i < L.length
  · have hd : e63_0_0 p ⟨i, R⟩ = false := by
      show cnd (decide ((i:Int) < p.x21)) false true = false
      rw [decide_eq_true (by rw [hL.2.1]; omega)]; rfl
    have e8 : e63_0_8 p ⟨i, R⟩ = i := by show 0 + (i:Int).toNat = i; omega
    have e9 : e63_0_9 p ⟨i, R⟩ = L[i] := by
      unfold e63_0_9
      rw [e8, hF]
      simp [List.getD, hc]
    have hU2 : U64 (e63_0_9 p ⟨i, R⟩) := by rw [e9]; exact hU _ (List.getElem_mem hc)
    simp only [r63_0, hd, Tr.ok, Tr.get]
    refine ⟨⟨(fun e => by cases e), fun _ => ⟨⟨by show (0:Int) ≤ i; omega, by show (i:Int) < p.n20; rw [hL.1]; omega⟩, by show e63_0_8 p ⟨i, R⟩ < p.N3; rw [e8, hL.2.2]; exact hc, ⟨hU2, hR⟩, trivial⟩⟩, .inr ⟨_, rfl, ⟨i + 1, w2, hc, ?_⟩, ?_⟩⟩
    · show tD R (e63_0_9 p ⟨i, R⟩) = _
      rw [e9, List.take_succ_eq_append_getElem hc, List.foldl_append, ← g3]
      rfl
    · show L.length - (e63_0_6 p _).toNat < L.length - (i:Int).toNat
      simp only [e63_0_6, w2]
      omega
  · have hd : e63_0_0 p ⟨i, R⟩ = true := by
      show cnd (decide ((i:Int) < p.x21)) false true = true
      rw [decide_eq_false (by rw [hL.2.1]; omega)]; rfl
    simp only [r63_0, hd, Tr.ok, Tr.get]
    refine ⟨⟨fun _ => trivial, (fun e => by cases e)⟩, .inl ⟨⟨_, _, _, rfl⟩, ?_⟩⟩
    show R = _
    rw [g3, List.take_of_length_le (by omega)]
def pre63 (v : V63) : Prop := U64 v.at_ ∧ TR (TS.mk v.M v.f v.c) ∧ v.c ≤ 100000
theorem n63 (v : V63) (h : pre63 v) : (f63 v).ok ∧ (f63 v).get.1 = .int .i64 (rmE (TS.mk v.M v.f v.c) v.at_) ∧ HOws (f63 v).get.2.1 [HO.cells 175 [.ptr 1 0, .int .u64 ((rmT (TS.mk v.M v.f v.c) v.at_).f), .int .i64 ((rmT (TS.mk v.M v.f v.c) v.at_).c)], HO.res (rmT (TS.mk v.M v.f v.c) v.at_).M] := by
  obtain ⟨h0, h1, h4⟩ := h
  obtain ⟨k1, k2⟩ := l63 (p := P63_0.mk v.at_ (blw v.M v.c v.at_).length (blw v.M v.c v.at_).length v.f v.c (ld v.M v.at_).k (ld v.M v.at_).a (ld v.M v.at_).b (ld v.M v.at_).r (ld v.M v.at_).g (ld v.M v.at_).s (ld v.M v.at_).m (ld v.M v.at_).x (ld v.M v.at_).p (ld v.M v.at_).d (blw v.M v.c v.at_).length fun j => (blw v.M v.c v.at_).getD j 0)
    (s := S63_0.mk 0 v.M) h1.1 ⟨rfl, rfl, rfl⟩ (by have := blw_len v.M v.c v.at_; omega) (fun _ => rfl) (blw_U h1.1 _ _) ⟨rfl, rfl⟩
  have e12 : f63_12 v = (blw v.M v.c v.at_).foldl tD v.M := k2
  have hR : MemR (f63_12 v) := by rw [e12]; exact tDs_R h1.1
  refine ⟨⟨h0, fun _ => ⟨h0, h1, h4⟩, fun _ => k1, fun _ => h0, fun _ => ⟨(ld_SlR h1.1 _).p, (ld_SlR h1.1 _).x, st_MemR hR sl0_R _⟩, trivial⟩, ?_, ?_⟩
  · simp only [f63, Tr.get, f63_7, f63_11, rmE]
    by_cases hz : hdE v.M v.at_ = 0
    · rw [hz]; rfl
    · rw [bne_iff_ne.2 hz]; rfl
  · simp only [f63, Tr.get, f63_8, f63_9, f63_10, f63_11, f63_13]
    rw [e12]
    exact .refl _
noncomputable def f63n (v : V63) : Tr (Fin th.R) := .need (pre63 v) (.leaf (.int .i64 (rmE (TS.mk v.M v.f v.c) v.at_), [.cells 175 [.ptr 1 0, .int .u64 ((rmT (TS.mk v.M v.f v.c) v.at_).f), .int .i64 ((rmT (TS.mk v.M v.f v.c) v.at_).c)], .res (rmT (TS.mk v.M v.f v.c) v.at_).M], [0, 1]))
theorem s63n : Sound Try.prog th 63 (fnC d63 ofV63 f63n) := fnC_refine s63 fun v h => by
  obtain ⟨hp, _⟩ := h
  obtain ⟨a, b, c⟩ := n63 v hp
  exact ⟨a, b.symm, (qdd63 v).symm, c, by show 2 ≤ 2; decide⟩
noncomputable def nice63n : List (Nat × CF th.R) := (63, lift (fnC d63 ofV63 f63n)) :: nice58n
theorem nok63n : NiceOk Try.prog th nice63n := ⟨lift_sound s63n, nok58n⟩
set_option maxRecDepth 100000
set_option maxRecDepth 100000
set_option maxRecDepth 100000
noncomputable def nice139n : List (Nat × CF th.R) := nice63n
theorem nok139n : NiceOk Try.prog th nice139n := nok63n
set_option maxRecDepth 100000
noncomputable def nice184n : List (Nat × CF th.R) := nice139n
theorem nok184n : NiceOk Try.prog th nice184n := nok139n
set_option maxRecDepth 100000
def bwT (l : List Nd) (d:Int) (k:Nat) : List Int := ((l.drop k).takeWhile (fun x => decide (x.d > d))).map Nd.t
def bwL (l : List Nd) (a:Int) : List Int := if fnd l a < 0 then [] else bwT l (atN l a).d ((fnd l a).toNat + 1)
def rmG (i b:Nat) : Nat → List Nd → List Nd
  | _, [] => []
  | k, x :: r => if k ≠ i then (if i < k ∧ k ≤ i + b then { x with d := IntKind.i64.wrap (x.d - 1) } else x) :: rmG i b (k + 1) r else rmG i b (k + 1) r
def rmL (z:Int) (l : List Nd) (a:Int) : List Nd := cnd (hdT z l a != 0) l (rmG (fnd l a).toNat (bwL l a).length 0 l)
theorem rmG_len (i b:Nat) : ∀ (k:Nat) (l : List Nd), (rmG i b k l).length ≤ l.length
  | _, [] => Nat.le_refl _
  | k, x :: r => by
    unfold rmG
    split
    · exact Nat.succ_le_succ (rmG_len i b (k + 1) r)
    · exact Nat.le_succ_of_le (rmG_len i b (k + 1) r)
theorem swp_len (l : List Nd) (i k:Nat) (a b:Int) : (swpN l i k a b).length = l.length := by
  unfold swpN
  cases Nat.beq i k <;> simp [cnd]
set_option maxRecDepth 100000
noncomputable def nice140n : List (Nat × CF th.R) := nice184n
theorem nok140n : NiceOk Try.prog th nice140n := nok184n
end Go.Sx.M

