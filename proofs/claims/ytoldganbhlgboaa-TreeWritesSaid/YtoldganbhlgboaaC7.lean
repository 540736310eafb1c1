/- Contracts of the functions of this seat, each by the executor and the kernel; part 7. Their conditions stand in each. -/
import Derived.Test.YtoldganbhlgboaaC6
set_option linter.unusedVariables false
set_option linter.unusedSimpArgs false
set_option linter.unnecessarySimpa false
namespace Go.Sx.M
open Go Go.Sx Go.Proofs Go.RowKit
set_option maxRecDepth 100000
/-! ### A tree in a memory one slot of which is not its own -/
def pk (h:Int) (g : Int → Int) (M : Mem) : Mem := ⟨M.size, fun i => if i / 32 = h then g i else M.W i⟩
theorem pk_other {h : Int} {g : Int → Int} {M : Mem} {i : Int} (e : i / 32 ≠ h) : (pk h g M).W i = M.W i := if_neg e
theorem pk_in {h : Int} {g : Int → Int} {M : Mem} {i : Int} (e : i / 32 = h) : (pk h g M).W i = g i := if_pos e
def Zr (h:Int) (M : Mem) : Prop := ∀ i, i / 32 = h → M.W i = 0
theorem mrg_pk {h : Int} {g : Int → Int} {c : Bool} {M N M' N' : Mem} (e1 : M' = pk h g M) (e2 : N' = pk h g N) : mrgM c M' N' = pk h g (mrgM c M N) := by
  subst e1 e2
  cases c <;> rfl
theorem wr_pk {h : Int} {g : Int → Int} {M : Mem} {a x : Int} (e : a / 32 ≠ h) : wrM (pk h g M) a x = pk h g (wrM M a x) := by
  unfold wrM pk
  refine congrArg (Mem.mk M.size) (funext fun i => ?_)
  cases decide (errI M.size a = 0)
  · rfl
  · show upd _ a x i = if i / 32 = h then g i else upd M.W a x i
    by_cases hi : i = a
    · subst hi
      rw [upd_same, if_neg e, upd_same]
    · rw [upd_other hi, upd_other hi]
theorem w8 {a k : Int} (hu : U64 a) (h32 : a % 32 = 0) (k0 : 0 ≤ k) (k1 : k < 32) : IntKind.u64.wrap (a + k) = a + k ∧ (a + k) / 32 = a / 32 := by
  obtain ⟨h0, h1⟩ := hu
  exact ⟨wrap_u64_id (by omega) (by omega), by omega⟩
theorem ld_pk {h : Int} {g : Int → Int} {M : Mem} {a : Int} (hu : U64 a) (e : a / 32 ≠ h) : ld (pk h g M) a = ld M a ∧ ldE (pk h g M) a = ldE M a := by
  have q1 : f99_0 ⟨a, pk h g M⟩ = errS M.size a := errS_eq (M := pk h g M) hu
  have q2 : f99_0 ⟨a, M⟩ = errS M.size a := errS_eq hu
  by_cases he : errS M.size a = 0
  · have h32 : a % 32 = 0 := (errS_ok he).1
    have hw : ∀ k, 0 ≤ k → k < 32 → (pk h g M).W (IntKind.u64.wrap (a + k)) = M.W (IntKind.u64.wrap (a + k)) := fun k k0 k1 => by
      obtain ⟨e1, e2⟩ := w8 hu h32 k0 k1
      exact pk_other (by rw [e1, e2]; exact e)
    obtain ⟨p1, p2⟩ := ld_raw (M := pk h g M) (by rw [q1]; exact he) (hw 0 (by omega) (by omega)) (hw 8 (by omega) (by omega)) (hw 16 (by omega) (by omega)) (hw 24 (by omega) (by omega))
    obtain ⟨r1, r2⟩ := ld_raw (M := M) (by rw [q2]; exact he) rfl rfl rfl rfl
    by_cases ho : okW (M.W (IntKind.u64.wrap (a + 0))) (M.W (IntKind.u64.wrap (a + 8))) (M.W (IntKind.u64.wrap (a + 16))) (M.W (IntKind.u64.wrap (a + 24)))
    · exact ⟨(p1 ho).1.trans (r1 ho).1.symm, (p1 ho).2.trans (r1 ho).2.symm⟩
    · exact ⟨(p2 ho).1.trans (r2 ho).1.symm, (p2 ho).2.trans (r2 ho).2.symm⟩
  · obtain ⟨p1, p2⟩ := ld_bad (M := pk h g M) (a := a) (by rw [q1]; exact he)
    obtain ⟨r1, r2⟩ := ld_bad (M := M) (a := a) (by rw [q2]; exact he)
    exact ⟨p1.trans r1.symm, by rw [p2, r2, q1, q2]⟩
theorem st_bad {M : Mem} {a : Int} {z : Sl} (he : f99_0 ⟨a, M⟩ ≠ 0) : stM M a z = M := by
  have k10 : f91_10 ⟨a, z.k, z.a, z.b, z.r, z.g, z.s, z.m, z.x, z.p, z.d, M⟩ = true := by simp [f91_10, he]
  show mrgM (f91_10 _) M (mrgM (f91_11 _) M _) = M
  rw [k10]; rfl
theorem st_good {M : Mem} {a : Int} {z : Sl} (he : f99_0 ⟨a, M⟩ = 0) :
    stM M a z = mrgM (!rightS z) M (wrM (wrM (wrM (wrM M (IntKind.u64.wrap (a + 0)) (wd0 z)) (IntKind.u64.wrap (a + 8)) (wd1 z)) (IntKind.u64.wrap (a + 16)) (wd2 z)) (IntKind.u64.wrap (a + 24)) (wd3 z)) := by
  have k10 : f91_10 ⟨a, z.k, z.a, z.b, z.r, z.g, z.s, z.m, z.x, z.p, z.d, M⟩ = false := by simp [f91_10, he]
  show mrgM (f91_10 _) M (mrgM (f91_11 _) M _) = _
  rw [k10]; rfl
theorem st_pk {h : Int} {g : Int → Int} {M : Mem} {a : Int} {z : Sl} (hu : U64 a) (e : a / 32 ≠ h) : stM (pk h g M) a z = pk h g (stM M a z) := by
  have q1 : f99_0 ⟨a, pk h g M⟩ = errS M.size a := errS_eq (M := pk h g M) hu
  have q2 : f99_0 ⟨a, M⟩ = errS M.size a := errS_eq hu
  by_cases he : errS M.size a = 0
  · have h32 : a % 32 = 0 := (errS_ok he).1
    have hw : ∀ k, 0 ≤ k → k < 32 → IntKind.u64.wrap (a + k) / 32 ≠ h := fun k k0 k1 => by
      obtain ⟨e1, e2⟩ := w8 hu h32 k0 k1
      rw [e1, e2]; exact e
    rw [st_good (by rw [q1]; exact he), st_good (by rw [q2]; exact he)]
    refine mrg_pk rfl ?_
    rw [wr_pk (hw 0 (by omega) (by omega)), wr_pk (hw 8 (by omega) (by omega)), wr_pk (hw 16 (by omega) (by omega)), wr_pk (hw 24 (by omega) (by omega))]
  · rw [st_bad (by rw [q1]; exact he), st_bad (by rw [q2]; exact he)]
theorem hd_pk {h : Int} {g : Int → Int} {M : Mem} {a : Int} (hu : U64 a) (e : a / 32 ≠ h) : hdE (pk h g M) a = hdE M a := by
  unfold hdE
  rw [(ld_pk hu e).1, (ld_pk hu e).2]
theorem fr_pk {h : Int} {g : Int → Int} {M : Mem} {a : Int} (hu : U64 a) (e : a / 32 ≠ h) : frE (pk h g M) a = frE M a := by
  unfold frE
  rw [(ld_pk hu e).1, (ld_pk hu e).2]
theorem ft_pk {h : Int} {g : Int → Int} {M : Mem} {n a : Int} {c : Sl} (hu : U64 a) (e : a / 32 ≠ h) : ftE (pk h g M) n a c = ftE M n a c := by
  unfold ftE
  rw [fr_pk hu e]
def okA (h a:Int) : Prop := U64 a ∧ (a = 0 ∨ a / 32 ≠ h)
theorem mrg_t (M N : Mem) : mrgM true M N = M := rfl
theorem z00 : ((0:Int) == 0) = true := rfl
theorem tX_pk {h : Int} {g : Int → Int} {M : Mem} {a y : Int} (ha : okA h a) : tX (pk h g M) a y = pk h g (tX M a y) := by
  obtain ⟨hu, rfl | e⟩ := ha
  · unfold tX
    rw [z00, mrg_t, mrg_t]
  · unfold tX
    rw [(ld_pk hu e).1, st_pk hu e]
    exact mrg_pk rfl rfl
theorem tP_pk {h : Int} {g : Int → Int} {M : Mem} {a y : Int} (ha : okA h a) : tP (pk h g M) a y = pk h g (tP M a y) := by
  obtain ⟨hu, rfl | e⟩ := ha
  · unfold tP
    rw [z00, mrg_t, mrg_t]
  · unfold tP
    rw [(ld_pk hu e).1, st_pk hu e]
    exact mrg_pk rfl rfl
theorem tC_pk {h : Int} {g : Int → Int} {M : Mem} {a : Int} {c : Sl} (ha : okA h a) : tC (pk h g M) a c = pk h g (tC M a c) := by
  obtain ⟨hu, rfl | e⟩ := ha
  · unfold tC
    rw [z00, mrg_t, mrg_t]
  · unfold tC
    rw [(ld_pk hu e).1, st_pk hu e]
    exact mrg_pk rfl rfl
theorem tD_pk {h : Int} {g : Int → Int} {M : Mem} {a : Int} (ha : okA h a) : tD (pk h g M) a = pk h g (tD M a) := by
  obtain ⟨hu, rfl | e⟩ := ha
  · unfold tD
    rw [z00, mrg_t, mrg_t]
  · unfold tD
    rw [(ld_pk hu e).1, st_pk hu e]
    exact mrg_pk rfl rfl
theorem tie_pk {h : Int} {g : Int → Int} {M : Mem} {a b : Int} (ha : okA h a) (hb : okA h b) : tieM (pk h g M) a b = pk h g (tieM M a b) := by
  unfold tieM
  rw [tX_pk ha, tP_pk hb]
theorem ins_pk {h : Int} {g : Int → Int} {M : Mem} {a b i : Int} {c : Sl} {d : Int} (ha : okA h a) (hb : okA h b) (hu : U64 i) (hi : i / 32 ≠ h) : insM (pk h g M) a b i c d = pk h g (insM M a b i c d) := by
  unfold insM
  rw [st_pk hu hi, tie_pk ha ⟨hu, .inr hi⟩, tie_pk ⟨hu, .inr hi⟩ hb]
theorem tDs_pk {h : Int} {g : Int → Int} : ∀ {l : List Int} {M : Mem}, (∀ x, x ∈ l → okA h x) → l.foldl tD (pk h g M) = pk h g (l.foldl tD M)
  | [], _, _ => rfl
  | a :: l, M, hl => by
    show l.foldl tD (tD (pk h g M) a) = pk h g (l.foldl tD (tD M a))
    rw [tD_pk (hl a List.mem_cons_self)]
    exact tDs_pk fun x hx => hl x (List.mem_cons_of_mem _ hx)
def pkT (h:Int) (g : Int → Int) (t : TS) : TS := ⟨pk h g t.M, t.f, t.c⟩
theorem raw0 : (rawS 0 0 0 0).k = 0 := by decide +kernel
theorem RepS.off {h : Int} {t : TS} {l : List Nd} {σ : Int → Sl} (hr : RepS t l σ) (h0 : Zr h t.M) {x : Int} (hx : x ∈ tA l) : U64 x ∧ x / 32 ≠ h := by
  obtain ⟨y, hy, rfl⟩ := mem_tA.1 hx
  obtain ⟨l1, l2, rfl⟩ := List.append_of_mem hy
  obtain ⟨e1, e2, e3⟩ := hr.mem
  refine ⟨e3, fun e => ?_⟩
  have hs := (hr.ok y (by simp)).at_
  have he : f99_0 ⟨y.t, t.M⟩ = 0 := by rw [errS_eq e3]; exact errS_mk hs.2.1 hs.2.2
  have hw : ∀ k, 0 ≤ k → k < 32 → t.M.W (IntKind.u64.wrap (y.t + k)) = 0 := fun k k0 k1 => by
    obtain ⟨p1, p2⟩ := w8 e3 hs.2.1 k0 k1
    exact h0 _ (by rw [p1, p2]; exact e)
  obtain ⟨p1, p2⟩ := ld_raw (M := t.M) he (hw 0 (by omega) (by omega)) (hw 8 (by omega) (by omega)) (hw 16 (by omega) (by omega)) (hw 24 (by omega) (by omega))
  have hk : (Go.Sx.M.ld t.M y.t).k = 0 := by
    by_cases ho : okW 0 0 0 0
    · rw [(p1 ho).1]; exact raw0
    · rw [(p2 ho).1]; rfl
  have e2 : Go.Sx.M.ld t.M y.t = sN y (hdA l2 0) (lsA l1 0) := e2
  rw [e2] at hk
  exact (hr.ok y (by simp)).k hk
theorem RepS.okL {h : Int} {t : TS} {l : List Nd} {σ : Int → Sl} (hr : RepS t l σ) (h0 : Zr h t.M) {x : Int} (hx : x = 0 ∨ x ∈ tA l) : okA h x := by
  rcases hx with rfl | hx
  · exact ⟨u0, .inl rfl⟩
  · obtain ⟨a, b⟩ := hr.off h0 hx
    exact ⟨a, .inr b⟩
theorem hdA_zm (l : List Nd) : hdA l 0 = 0 ∨ hdA l 0 ∈ tA l := by
  cases l with
  | nil => exact .inl rfl
  | cons y r => exact .inr List.mem_cons_self
theorem lsA_zm : ∀ (l : List Nd) (p:Int), lsA l p = p ∨ lsA l p ∈ tA l
  | [], _ => .inl rfl
  | x :: l, p => by
    rcases lsA_zm l x.t with e | e
    · exact .inr (by show lsA l x.t ∈ x.t :: tA l; rw [e]; exact List.mem_cons_self)
    · exact .inr (List.mem_cons_of_mem _ e)
theorem RepS.lks {h : Int} {t : TS} {l : List Nd} {σ : Int → Sl} (hr : RepS t l σ) (h0 : Zr h t.M) {a : Int} (hu : U64 a) (he : Go.Sx.M.hdE t.M a = 0) : okA h (Go.Sx.M.ld t.M a).x ∧ okA h (Go.Sx.M.ld t.M a).p := by
  have hz : hdT t.M.size l a = 0 := by rw [← hr.hdE hu]; exact he
  obtain ⟨l1, l2, g, rfl, ht, _, _, hld, _, _⟩ := hr.at_ hu hz
  have hld : Go.Sx.M.ld t.M a = sN g (hdA l2 0) (lsA l1 0) := hld
  rw [hld]
  constructor
  · refine hr.okL h0 ?_
    rcases hdA_zm l2 with q | q
    · exact .inl q
    · exact .inr (by rw [tA_app]; exact List.mem_append_right _ (List.mem_cons_of_mem _ q))
  · refine hr.okL h0 ?_
    rcases lsA_zm l1 0 with q | q
    · exact .inl q
    · exact .inr (by rw [tA_app]; exact List.mem_append_left _ q)
theorem RepS.bl_pk {h : Int} {g : Int → Int} {t : TS} {d : Int} (h0 : Zr h t.M) : ∀ {r k1 : List Nd} {σ : Int → Sl} {n : Nat}, RepS t (k1 ++ r) σ → blF (pk h g t.M) d n (hdA r 0) = blF t.M d n (hdA r 0) ∧ ∀ x, x ∈ blF t.M d n (hdA r 0) → x ∈ tA r
  | [], k1, σ, n, _ => by
    rw [show hdA ([] : List Nd) 0 = 0 from rfl, blF_stop (.inl rfl), blF_stop (.inl rfl)]
    exact ⟨rfl, fun x hx => by cases hx⟩
  | y :: r, k1, σ, 0, _ => ⟨rfl, fun x hx => by cases hx⟩
  | y :: r, k1, σ, n + 1, hr => by
    obtain ⟨o1, o2⟩ := hr.off h0 (x := y.t) (by rw [tA_app]; exact List.mem_append_right _ List.mem_cons_self)
    obtain ⟨e1, e2, e3⟩ := hr.mem
    have e2 : Go.Sx.M.ld t.M y.t = sN y (hdA r 0) (lsA k1 0) := e2
    have ex : (Go.Sx.M.ld t.M y.t).x = hdA r 0 := by rw [e2]; rfl
    have q := RepS.bl_pk (g := g) (d := d) h0 (n := n) (r := r) (k1 := k1 ++ [y]) (σ := σ) (by simpa using hr)
    rw [show hdA (y :: r) 0 = y.t from rfl, blF_succ, blF_succ, hd_pk o1 o2, (ld_pk (h := h) (g := g) (M := t.M) o1 o2).1, ex, q.1]
    refine ⟨rfl, fun x hx => ?_⟩
    split at hx
    · cases hx
    · split at hx
      · cases hx
      · rcases List.mem_cons.1 hx with rfl | hx
        · exact List.mem_cons_self
        · exact List.mem_cons_of_mem _ (q.2 x hx)
theorem RepS.blw_pk {h : Int} {g : Int → Int} {t : TS} {l : List Nd} {σ : Int → Sl} (hr : RepS t l σ) (h0 : Zr h t.M) {a : Int} (hu : U64 a) (e : a / 32 ≠ h) (he : Go.Sx.M.hdE t.M a = 0) : blw (pk h g t.M) t.c a = blw t.M t.c a ∧ ∀ x, x ∈ blw t.M t.c a → okA h x := by
  have hz : hdT t.M.size l a = 0 := by rw [← hr.hdE hu]; exact he
  obtain ⟨l1, l2, y, rfl, ht, _, _, hld, _, _⟩ := hr.at_ hu hz
  have hld : Go.Sx.M.ld t.M a = sN y (hdA l2 0) (lsA l1 0) := hld
  have hx : (Go.Sx.M.ld t.M a).x = hdA l2 0 := by rw [hld]; rfl
  have q := RepS.bl_pk (g := g) (d := (Go.Sx.M.ld t.M a).d) h0 (n := (t.c + 1).toNat) (r := l2) (k1 := l1 ++ [y]) (σ := σ) (by simpa using hr)
  have e1 : blw (pk h g t.M) t.c a = blw t.M t.c a := by
    unfold blw
    rw [hd_pk hu e, (ld_pk hu e).1, hx, q.1]
  refine ⟨e1, fun x hm => ?_⟩
  unfold blw at hm
  rw [if_neg (by rw [he]; simp), hx] at hm
  exact hr.okL h0 (.inr (by rw [tA_app]; exact List.mem_append_right _ (List.mem_cons_of_mem _ (q.2 x hm))))
theorem TS_ext {a b : TS} (h1 : a.M = b.M) (h2 : a.f = b.f) (h3 : a.c = b.c) : a = b := by
  cases a; cases b
  simp only at h1 h2 h3
  rw [h1, h2, h3]
theorem rt_pk {h : Int} {g : Int → Int} {t : TS} {l : List Nd} {σ : Int → Sl} (hr : RepS t l σ) (h0 : Zr h t.M) {a : Int} {z : Sl} (hu : U64 a) (e : a / 32 ≠ h) : rtT (pkT h g t) a z = pkT h g (rtT t a z) := by
  have hf : okA h t.f := hr.okL h0 (by have := hr.f; rw [show t.f = hdA l 0 from this]; exact hdA_zm l)
  have k := ft_pk (h := h) (g := g) (M := t.M) (n := t.c) (c := z) hu e
  refine TS_ext ?_ ?_ ?_
  · show mrgM (ftE (pk h g t.M) t.c a z != 0) (pk h g t.M) (insM (pk h g t.M) 0 t.f a z 0) = pk h g (rtT t a z).M
    rw [k, ins_pk ⟨u0, .inl rfl⟩ hf hu e]
    exact mrg_pk rfl rfl
  · show cnd (ftE (pk h g t.M) t.c a z != 0) t.f (insF t.f 0 t.f a) = _
    rw [k]; rfl
  · show cnd (ftE (pk h g t.M) t.c a z != 0) t.c _ = _
    rw [k]; rfl
theorem mrg_or {h : Int} {g : Int → Int} {c : Bool} {M N M' N' : Mem} (e1 : M' = pk h g M) (e2 : c = false → N' = pk h g N) : mrgM c M' N' = pk h g (mrgM c M N) := by
  cases c with
  | true => subst e1; rfl
  | false => rw [e2 rfl]; rfl
theorem bne0 {x : Int} (h : (x != 0) = false) : x = 0 := by simpa using h
theorem ch_pk {h : Int} {g : Int → Int} {t : TS} {l : List Nd} {σ : Int → Sl} (hr : RepS t l σ) (h0 : Zr h t.M) {p a : Int} {z : Sl} (hp : U64 p) (ep : p / 32 ≠ h) (hu : U64 a) (e : a / 32 ≠ h) : chT (pkT h g t) p a z = pkT h g (chT t p a z) := by
  have k1 := hd_pk (h := h) (g := g) (M := t.M) hp ep
  have k2 := ft_pk (h := h) (g := g) (M := t.M) (n := t.c) (c := z) hu e
  have k3 := (ld_pk (h := h) (g := g) (M := t.M) hp ep).1
  refine TS_ext ?_ ?_ ?_
  · show mrgM (hdE (pk h g t.M) p != 0) (pk h g t.M) (mrgM (ftE (pk h g t.M) t.c a z != 0) (pk h g t.M) (mrgM (decide ((ld (pk h g t.M) p).d ≥ 4096)) (pk h g t.M) (insM (pk h g t.M) p (ld (pk h g t.M) p).x a z (IntKind.i64.wrap ((ld (pk h g t.M) p).d + 1))))) = pk h g (chT t p a z).M
    rw [k1, k2, k3]
    refine mrg_or rfl fun hz => mrg_or rfl fun _ => mrg_or rfl fun _ => ?_
    exact ins_pk ⟨hp, .inr ep⟩ (hr.lks h0 hp (bne0 hz)).1 hu e
  · show cnd (hdE (pk h g t.M) p != 0) t.f (cnd (ftE (pk h g t.M) t.c a z != 0) t.f (cnd (decide ((ld (pk h g t.M) p).d ≥ 4096)) t.f (insF t.f p (ld (pk h g t.M) p).x a))) = _
    rw [k1, k2, k3]; rfl
  · show cnd (hdE (pk h g t.M) p != 0) t.c (cnd (ftE (pk h g t.M) t.c a z != 0) t.c (cnd (decide ((ld (pk h g t.M) p).d ≥ 4096)) t.c _)) = _
    rw [k1, k2, k3]; rfl
theorem se_pk {h : Int} {g : Int → Int} {t : TS} {a : Int} {z : Sl} (hu : U64 a) (e : a / 32 ≠ h) : seT (pkT h g t) a z = pkT h g (seT t a z) := by
  have k1 := hd_pk (h := h) (g := g) (M := t.M) hu e
  refine TS_ext ?_ rfl rfl
  show mrgM (hdE (pk h g t.M) a != 0) (pk h g t.M) (mrgM (mayC z != 0) (pk h g t.M) (tC (pk h g t.M) a z)) = pk h g (seT t a z).M
  rw [k1, tC_pk ⟨hu, .inr e⟩]
  exact mrg_pk rfl (mrg_pk rfl rfl)
theorem mv_pk {h : Int} {g : Int → Int} {t : TS} {l : List Nd} {σ : Int → Sl} (hr : RepS t l σ) (h0 : Zr h t.M) {a b : Int} (hu : U64 a) (e : a / 32 ≠ h) (hb : U64 b) (eb : b / 32 ≠ h) : mvT (pkT h g t) a b = pkT h g (mvT t a b) := by
  have k1 := hd_pk (h := h) (g := g) (M := t.M) hu e
  have k2 := fr_pk (h := h) (g := g) (M := t.M) hb eb
  have k3 := (ld_pk (h := h) (g := g) (M := t.M) hu e).1
  refine TS_ext ?_ ?_ rfl
  · show mrgM (hdE (pk h g t.M) a != 0) (pk h g t.M) (mrgM (frE (pk h g t.M) b != 0) (pk h g t.M) (tieM (tieM (stM (stM (pk h g t.M) a sl0) b (ld (pk h g t.M) a)) (ld (pk h g t.M) a).p b) b (ld (pk h g t.M) a).x)) = pk h g (mvT t a b).M
    rw [k1, k2, k3]
    refine mrg_or rfl fun hz => mrg_or rfl fun _ => ?_
    obtain ⟨o1, o2⟩ := hr.lks h0 hu (bne0 hz)
    rw [st_pk hu e, st_pk hb eb, tie_pk o2 ⟨hb, .inr eb⟩, tie_pk ⟨hb, .inr eb⟩ o1]
    rfl
  · show cnd (hdE (pk h g t.M) a != 0) t.f (cnd (frE (pk h g t.M) b != 0) t.f (tieF (tieF t.f (ld (pk h g t.M) a).p b) b (ld (pk h g t.M) a).x)) = _
    rw [k1, k2, k3]; rfl
theorem oth_ok {h x a b : Int} (hx : okA h x) (ha : okA h a) (hb : okA h b) : okA h (f180_0 x a b) := cnd_ind hb (cnd_ind ha hx)
theorem sw_pk {h : Int} {g : Int → Int} {t : TS} {l : List Nd} {σ : Int → Sl} (hr : RepS t l σ) (h0 : Zr h t.M) {a b : Int} (hu : U64 a) (e : a / 32 ≠ h) (hb : U64 b) (eb : b / 32 ≠ h) : swT (pkT h g t) a b = pkT h g (swT t a b) := by
  have k1 := hd_pk (h := h) (g := g) (M := t.M) hu e
  have k2 := hd_pk (h := h) (g := g) (M := t.M) hb eb
  have k3 := (ld_pk (h := h) (g := g) (M := t.M) hu e).1
  have k4 := (ld_pk (h := h) (g := g) (M := t.M) hb eb).1
  have oa : okA h a := ⟨hu, .inr e⟩
  have ob : okA h b := ⟨hb, .inr eb⟩
  have f1 : swF1 (pkT h g t) a b = swF1 t a b := by
    show tieF t.f (f180_0 (ld (pk h g t.M) a).p a b) b = _
    rw [k3]; rfl
  have f2 : swF2 (pkT h g t) a b = swF2 t a b := by
    show tieF (swF1 (pkT h g t) a b) b (f180_0 (ld (pk h g t.M) a).x a b) = _
    rw [f1, k3]; rfl
  have f3 : swF3 (pkT h g t) a b = swF3 t a b := by
    show tieF (swF2 (pkT h g t) a b) (f180_0 (ld (pk h g t.M) b).p a b) a = _
    rw [f2, k4]; rfl
  have f4 : swF4 (pkT h g t) a b = swF4 t a b := by
    show tieF (swF3 (pkT h g t) a b) a (f180_0 (ld (pk h g t.M) b).x a b) = _
    rw [f3, k4]; rfl
  refine TS_ext ?_ ?_ rfl
  · show mrgM (hdE (pk h g t.M) a != 0) (pk h g t.M) (mrgM (cnd (hdE (pk h g t.M) b != 0) true (a == b)) (pk h g t.M) (swM4 (pkT h g t) a b)) = pk h g (swT t a b).M
    rw [k1, k2]
    refine mrg_or rfl fun hz => mrg_or rfl fun hy => ?_
    have hy : (hdE t.M b != 0) = false := by
      cases hq : (hdE t.M b != 0) with
      | false => rfl
      | true => rw [hq] at hy; cases hy
    obtain ⟨o1, o2⟩ := hr.lks h0 hu (bne0 hz)
    obtain ⟨o3, o4⟩ := hr.lks h0 hb (bne0 hy)
    have m0 : swM0 (pkT h g t) a b = pk h g (swM0 t a b) := by
      show stM (stM (pk h g t.M) a (ld (pk h g t.M) b)) b (ld (pk h g t.M) a) = _
      rw [k3, k4, st_pk hu e, st_pk hb eb]; rfl
    have m1 : swM1 (pkT h g t) a b = pk h g (swM1 t a b) := by
      show tieM (swM0 (pkT h g t) a b) (f180_0 (ld (pk h g t.M) a).p a b) b = _
      rw [m0, k3, tie_pk (oth_ok o2 oa ob) ob]; rfl
    have m2 : swM2 (pkT h g t) a b = pk h g (swM2 t a b) := by
      show tieM (swM1 (pkT h g t) a b) b (f180_0 (ld (pk h g t.M) a).x a b) = _
      rw [m1, k3, tie_pk ob (oth_ok o1 oa ob)]; rfl
    have m3 : swM3 (pkT h g t) a b = pk h g (swM3 t a b) := by
      show tieM (swM2 (pkT h g t) a b) (f180_0 (ld (pk h g t.M) b).p a b) a = _
      rw [m2, k4, tie_pk (oth_ok o4 oa ob) oa]; rfl
    show tieM (swM3 (pkT h g t) a b) a (f180_0 (ld (pk h g t.M) b).x a b) = _
    rw [m3, k4, tie_pk oa (oth_ok o3 oa ob)]; rfl
  · show cnd (hdE (pk h g t.M) a != 0) t.f (cnd (cnd (hdE (pk h g t.M) b != 0) true (a == b)) t.f (swF4 (pkT h g t) a b)) = _
    rw [k1, k2, f4]; rfl
theorem rm_pk {h : Int} {g : Int → Int} {t : TS} {l : List Nd} {σ : Int → Sl} (hr : RepS t l σ) (h0 : Zr h t.M) {a : Int} (hu : U64 a) (e : a / 32 ≠ h) : rmT (pkT h g t) a = pkT h g (rmT t a) := by
  have k1 := hd_pk (h := h) (g := g) (M := t.M) hu e
  have k3 := (ld_pk (h := h) (g := g) (M := t.M) hu e).1
  refine TS_ext ?_ ?_ ?_
  · show mrgM (hdE (pk h g t.M) a != 0) (pk h g t.M) (tieM (stM ((blw (pk h g t.M) t.c a).foldl tD (pk h g t.M)) a sl0) (ld (pk h g t.M) a).p (ld (pk h g t.M) a).x) = pk h g (rmT t a).M
    rw [k1, k3]
    refine mrg_or rfl fun hz => ?_
    obtain ⟨o1, o2⟩ := hr.lks h0 hu (bne0 hz)
    obtain ⟨b1, b2⟩ := hr.blw_pk (g := g) h0 hu e (bne0 hz)
    rw [b1, tDs_pk b2, st_pk hu e, tie_pk o2 o1]
  · show cnd (hdE (pk h g t.M) a != 0) t.f (tieF t.f (ld (pk h g t.M) a).p (ld (pk h g t.M) a).x) = _
    rw [k1, k3]; rfl
  · show cnd (hdE (pk h g t.M) a != 0) t.c _ = _
    rw [k1]; rfl
theorem RepS.dn_pk {h : Int} {g : Int → Int} {t : TS} {l : List Nd} {σ : Int → Sl} (hr : RepS t l σ) (h0 : Zr h t.M) {o : Op} (ho : o.R) (hA : o.A / 32 ≠ h) (hB : o.B / 32 ≠ h) : dnT (pkT h g t) o = pkT h g (dnT t o) := by
  obtain ⟨ua, ub, _⟩ := ho
  unfold dnT
  split
  · exact rt_pk hr h0 ua hA
  · split
    · exact ch_pk hr h0 ua hA ub hB
    · split
      · exact se_pk ua hA
      · split
        · exact mv_pk hr h0 ua hA ub hB
        · split
          · exact sw_pk hr h0 ua hA ub hB
          · split
            · exact rm_pk hr h0 ua hA
            · rfl
theorem RepS.dn_zr {h : Int} {t : TS} {l : List Nd} {σ : Int → Sl} (hr : RepS t l σ) (h0 : Zr h t.M) {o : Op} (ho : o.R) (hA : o.A / 32 ≠ h) (hB : o.B / 32 ≠ h) : Zr h (dnT t o).M := by
  have e := hr.dn_pk (g := fun _ => 0) h0 ho hA hB
  have et : pkT h (fun _ => 0) t = t := TS_ext (by
    show Mem.mk t.M.size _ = t.M
    have : (fun i => if i / 32 = h then 0 else t.M.W i) = t.M.W := funext fun i => by
      by_cases hi : i / 32 = h
      · rw [if_pos hi, h0 i hi]
      · rw [if_neg hi]
    rw [this]) rfl rfl
  rw [et] at e
  rw [e]
  exact fun i hi => pk_in hi
set_option maxRecDepth 100000
def gW (x y:Int) : Int → Int := fun i => if i = x then y else 0
theorem errI_0 {n x : Int} (h1 : x % 8 = 0) (h2 : x < n) : errI n x = 0 := errI_ok h1 h2
theorem wr_in {M : Mem} {x y : Int} (h1 : x % 8 = 0) (h2 : x < M.size) (h0 : Zr (x / 32) M) : wrM M x y = pk (x / 32) (gW x y) M := by
  unfold wrM pk
  rw [errI_0 h1 h2]
  refine congrArg (Mem.mk M.size) (funext fun i => ?_)
  show upd M.W x y i = if i / 32 = x / 32 then gW x y i else M.W i
  by_cases hi : i = x
  · subst hi
    rw [upd_same, if_pos rfl]
    exact (if_pos rfl).symm
  · rw [upd_other hi]
    by_cases e : i / 32 = x / 32
    · rw [if_pos e, h0 i e]
      exact (if_neg hi).symm
    · rw [if_neg e]
theorem wr_out {M : Mem} {x y : Int} (h1 : x % 8 = 0) (h2 : x < M.size) (h0 : Zr (x / 32) M) : wrM (pk (x / 32) (gW x y) M) x 0 = M := by
  unfold wrM pk
  show Mem.mk M.size (cnd (decide (errI M.size x = 0)) (upd (fun i => if i / 32 = x / 32 then gW x y i else M.W i) x 0) _) = M
  rw [errI_0 h1 h2]
  refine congrArg (Mem.mk M.size) (funext fun i => ?_)
  show upd (fun i => if i / 32 = x / 32 then gW x y i else M.W i) x 0 i = M.W i
  by_cases hi : i = x
  · subst hi
    rw [upd_same, h0 i rfl]
  · rw [upd_other hi]
    by_cases e : i / 32 = x / 32
    · rw [if_pos e, h0 i e]
      exact if_neg hi
    · rw [if_neg e]
theorem RepS.wcn0 {t : TS} {σ : Int → Sl} (h : RepS t [] σ) (hz : t.M.size = 65536) : wcn t.M = 0 := by
  refine sumN_zero fun p hp => ?_
  show cntW t.M.W (p:Int) = 0
  rcases Nat.eq_zero_or_pos (cntW t.M.W (p:Int)) with e | e
  · exact e
  · obtain ⟨i, hi, hw⟩ := cntW_pos.1 e
    exfalso
    have hp : p < pagN t.M := hp
    unfold pagN at hp
    rw [hz] at hp
    have hs : slOK t.M.size ((p:Int) * 4096 + 32 * ((i / 4:Nat):Int)) := ⟨by omega, by omega, by rw [hz]; omega⟩
    have hσ := h.out _ (by simp [tA]) hs
    obtain ⟨w0, w1, w2, w3⟩ := h.E.w _ hs
    rw [hσ] at w0 w1 w2 w3
    have e0 : wd0 sl0 = 0 := by decide +kernel
    have e1 : wd1 sl0 = 0 := by decide +kernel
    have e2 : wd2 sl0 = 0 := by decide +kernel
    have e3 : wd3 sl0 = 0 := by decide +kernel
    rw [e0] at w0
    rw [e1] at w1
    rw [e2] at w2
    rw [e3] at w3
    apply hw
    have hc : i % 4 = 0 ∨ i % 4 = 1 ∨ i % 4 = 2 ∨ i % 4 = 3 := by omega
    rcases hc with c | c | c | c
    · rw [show (p:Int) * 4096 + 8 * (i:Int) = (p:Int) * 4096 + 32 * ((i / 4:Nat):Int) by omega]; exact w0
    · rw [show (p:Int) * 4096 + 8 * (i:Int) = (p:Int) * 4096 + 32 * ((i / 4:Nat):Int) + 8 by omega]; exact w1
    · rw [show (p:Int) * 4096 + 8 * (i:Int) = (p:Int) * 4096 + 32 * ((i / 4:Nat):Int) + 16 by omega]; exact w2
    · rw [show (p:Int) * 4096 + 8 * (i:Int) = (p:Int) * 4096 + 32 * ((i / 4:Nat):Int) + 24 by omega]; exact w3
def J14 (x y:Int) (n:Nat) (u : TS) : Prop := TR u ∧ ∃ t l σ, RepS t l σ ∧ Zr (x / 32) t.M ∧ t.M.size = 65536 ∧ l.length ≤ n ∧ u = pkT (x / 32) (gW x y) t
theorem l14_0 {p : P14_0} {s : S14_0} (hp : p.x44 = p.n43 ∧ p.N0 = p.n43 ∧ p.n43 ≤ 60)
    (ho : ∀ j, j < p.n43 → (Op.mk (p.F0_0 j) (p.F0_1 j) (p.F0_2 j) (Sl.mk (p.F0_3 j) (p.F0_4 j) (p.F0_5 j) (p.F0_6 j) (p.F0_7 j) (p.F0_8 j) (p.F0_9 j) 0 0 0)).R)
    (hs : s.x45 = 0) (hJ : J14 p.x1 p.x2 0 ⟨s.R2, s.xh1_1, s.xh1_2⟩) :
    LT (r14_0 p) s ∧ (e14_0_0 p (lastS (r14_0 p) s) = true → J14 p.x1 p.x2 p.n43 ⟨(lastS (r14_0 p) s).R2, (lastS (r14_0 p) s).xh1_1, (lastS (r14_0 p) s).xh1_2⟩) := by
  obtain ⟨h44, hN, h60⟩ := hp
  refine LT.post (fun s : S14_0 => ∃ k : Nat, s.x45 = k ∧ k ≤ p.n43 ∧ J14 p.x1 p.x2 k ⟨s.R2, s.xh1_1, s.xh1_2⟩) (fun s : S14_0 => e14_0_0 p s = true → J14 p.x1 p.x2 p.n43 ⟨s.R2, s.xh1_1, s.xh1_2⟩) (fun s : S14_0 => (p.n43 - s.x45).toNat) ?_ ⟨0, hs, Nat.zero_le _, hJ⟩
  rintro s ⟨k, g1, g2, g3⟩
  have w2 : IntKind.i64.wrap (s.x45 + 1) = ((k + 1:Nat):Int) := by rw [g1, wi (by omega) (by omega)]; omega
  have e13 : e14_0_13 p s = k := by show 0 + s.x45.toNat = k; omega
  by_cases hc : k < p.n43
  · have hd : e14_0_0 p s = false := by
      show cnd (decide (s.x45 < p.x44)) false true = false
      rw [g1, h44, decide_eq_true (by omega)]; rfl
    cases h6 : e14_0_6 p s with
    | true =>
      simp only [r14_0, hd, h6, Tr.ok, Tr.get]
      exact ⟨⟨(fun e => by cases e), fun _ => ⟨⟨by omega, by omega⟩, by show e14_0_13 p s < p.N0; rw [e13, hN]; exact hc, fun _ => trivial, (fun e => by cases e)⟩⟩, .inl ⟨⟨_, _, _, rfl⟩, fun e => by cases e⟩⟩
    | false =>
      have hop : (Op.mk (e14_0_17 p s) (e14_0_14 p s) (e14_0_16 p s) (Sl.mk (e14_0_18 p s) (e14_0_19 p s) (e14_0_20 p s) (e14_0_21 p s) (e14_0_22 p s) (e14_0_23 p s) (e14_0_24 p s) 0 0 0)).R := by
        have := ho k hc
        rw [← e13] at this
        exact this
      obtain ⟨tr, t, l, σ, hr, h0, hz, hl, hu⟩ := g3
      have h6' : cnd (e14_0_15 p s) true ((e14_0_16 p s).fdiv 32 == p.x1.fdiv 32) = false := h6
      have fd : ∀ a : Int, a.fdiv 32 = a / 32 := fun a => Int.fdiv_eq_ediv_of_nonneg a (by decide)
      have hA : e14_0_14 p s / 32 ≠ p.x1 / 32 := fun e => by
        have : e14_0_15 p s = true := by
          show ((e14_0_14 p s).fdiv 32 == p.x1.fdiv 32) = true
          rw [fd, fd, e]; exact beq_self_eq_true _
        rw [this] at h6'; cases h6'
      have hB : e14_0_16 p s / 32 ≠ p.x1 / 32 := fun e => by
        rw [fd, fd, e, beq_self_eq_true] at h6'
        cases hq : e14_0_15 p s <;> rw [hq] at h6' <;> cases h6'
      have q := hr.dn_pk (g := gW p.x1 p.x2) h0 hop hA hB
      have q0 := hr.dn_zr h0 hop hA hB
      obtain ⟨_, ⟨τ, q2⟩, q3⟩ := hr.step (by omega) hop
      have hlen := mdL_len t.M.size l (Op.mk (e14_0_17 p s) (e14_0_14 p s) (e14_0_16 p s) (Sl.mk (e14_0_18 p s) (e14_0_19 p s) (e14_0_20 p s) (e14_0_21 p s) (e14_0_22 p s) (e14_0_23 p s) (e14_0_24 p s) 0 0 0))
      have hcc : s.xh1_2 ≤ 100000 := by
        have e1 : s.xh1_2 = t.c := congrArg TS.c hu
        have e2 := hr.c
        omega
      have tr2 := dnT_R tr hop
      simp only [r14_0, hd, h6, Tr.ok, Tr.get]
      refine ⟨⟨(fun e => by cases e), fun _ => ⟨⟨by omega, by omega⟩, by show e14_0_13 p s < p.N0; rw [e13, hN]; exact hc, (fun e => by cases e), fun _ => ⟨⟨tr, hcc, hop⟩, trivial⟩⟩⟩, .inr ⟨_, rfl, ⟨k + 1, w2, hc, tr2, _, _, τ, q2, q0, q3.trans hz, by omega, ?_⟩, ?_⟩⟩
      · rw [← q, ← hu]
        rfl
      · show ((p.n43:Int) - e14_0_9 p s).toNat < ((p.n43:Int) - s.x45).toNat
        simp only [e14_0_9, w2]
        omega
  · have hd : e14_0_0 p s = true := by
      show cnd (decide (s.x45 < p.x44)) false true = true
      rw [g1, h44, decide_eq_false (by omega)]; rfl
    have : k = p.n43 := by omega
    subst this
    refine ⟨?_, .inl ⟨?_, fun _ => g3⟩⟩
    · simp only [r14_0, hd, Tr.ok]
      exact ⟨fun _ => trivial, (fun e => by cases e)⟩
    · simp only [r14_0, hd, Tr.get]
      exact ⟨_, _, _, rfl⟩
def J14b (n:Nat) (u : TS) : Prop := TR u ∧ u.M.size = 65536 ∧ ∃ l σ, RepS u l σ ∧ l.length ≤ n
theorem l14_1 {p : P14_1} {s : S14_1} {n : Nat} (hp : p.x84 = n ∧ n ≤ 60) (hs : s.x85 = 0) (hJ : J14b n ⟨s.R2, s.xh1_1, s.xh1_2⟩) :
    LT (r14_1 p) s ∧ (e14_1_0 p (lastS (r14_1 p) s) = true ∧ J14b 0 ⟨(lastS (r14_1 p) s).R2, (lastS (r14_1 p) s).xh1_1, (lastS (r14_1 p) s).xh1_2⟩) := by
  obtain ⟨h84, h60⟩ := hp
  refine LT.post (fun s : S14_1 => ∃ k : Nat, s.x85 = k ∧ k ≤ n ∧ J14b (n - k) ⟨s.R2, s.xh1_1, s.xh1_2⟩) (fun s : S14_1 => e14_1_0 p s = true ∧ J14b 0 ⟨s.R2, s.xh1_1, s.xh1_2⟩) (fun s : S14_1 => (n - s.x85).toNat) ?_ ⟨0, hs, Nat.zero_le _, hJ⟩
  rintro s ⟨k, g1, g2, g3⟩
  have w2 : IntKind.i64.wrap (s.x85 + 1) = ((k + 1:Nat):Int) := by rw [g1, wi (by omega) (by omega)]; omega
  by_cases hc : k < n
  · have hd : e14_1_0 p s = false := by
      show cnd (decide (s.x85 < p.x84)) false true = false
      rw [g1, h84, decide_eq_true (by omega)]; rfl
    obtain ⟨tr, hz, l, σ, hr, hl⟩ := g3
    have hch : chF s.R2 s.xh1_2.toNat s.xh1_1 = tA l := hr.list
    have hcc : s.xh1_2 ≤ 100000 := by
      have h1 : s.xh1_2 = l.length := hr.c
      omega
    have e13 : e14_1_13 p s = l.length := by
      unfold e14_1_13
      rw [hch]
      simp [tA]
    have hm : ((n:Int) - e14_1_12 p s).toNat < ((n:Int) - s.x85).toNat := by
      simp only [e14_1_12, w2]
      omega
    cases l with
    | nil =>
      have e14 : e14_1_14 p s = false := by unfold e14_1_14; rw [e13]; rfl
      have e7 : e14_1_7 p s = false := by unfold e14_1_7; rw [e13]; rfl
      simp only [r14_1, hd, e7, Tr.ok, Tr.get]
      refine ⟨⟨(fun e => by cases e), fun _ => ⟨⟨tr, hcc⟩, (fun e => by rw [e14] at e; cases e), (fun e => by rw [e14] at e; cases e), (fun e => by rw [e14] at e; cases e), (fun e => by cases e), fun _ => trivial⟩⟩, .inr ⟨_, rfl, ⟨k + 1, w2, hc, ?_⟩, hm⟩⟩
      simp only [e14_1_8, e14_1_9, e14_1_10, e14]
      exact ⟨tr, hz, [], σ, hr, Nat.zero_le _⟩
    | cons y r =>
      have e14 : e14_1_14 p s = true := by
        unfold e14_1_14
        rw [e13, decide_eq_true (by simp only [List.length_cons]; omega)]; rfl
      have e15 : e14_1_15 p s = y.t := by unfold e14_1_15; rw [hch]; rfl
      have hu := (hr.tells (y := y) (by simp)).2.2.2.1
      have hz0 : hdT s.R2.size (y :: r) y.t = 0 := hdT_mem hr (by simp)
      obtain ⟨r1, ⟨τ, r2⟩, r3⟩ := hr.rem (by simp only [List.length_cons] at hl ⊢; omega) hu
      obtain ⟨l1, g, lb, l3, f1, _, _, _, _, f2, _⟩ := rmL_form hr hu hz0
      have hlen : (rmL s.R2.size (y :: r) y.t).length = r.length := by
        have e2 : rmL s.R2.size (y :: r) y.t = l1 ++ (lb.map dN ++ l3) := f2
        have e1 := congrArg List.length f1
        rw [e2]
        simp only [List.length_append, List.length_cons, List.length_map] at e1 ⊢
        omega
      have e7 : e14_1_7 p s = false := by
        unfold e14_1_7
        rw [e15]
        have : rmE ⟨s.R2, s.xh1_1, s.xh1_2⟩ y.t = 0 := by
          have h1 : rmE ⟨s.R2, s.xh1_1, s.xh1_2⟩ y.t = hdT s.R2.size (y :: r) y.t := r1
          rw [h1, hz0]
        rw [this]
        exact cnd_same _ _
      simp only [r14_1, hd, e7, Tr.ok, Tr.get]
      refine ⟨⟨(fun e => by cases e), fun _ => ⟨⟨tr, hcc⟩, (fun _ => ⟨Int.le_refl _, by rw [e13]; simp only [List.length_cons]; omega⟩), (fun _ => by rw [hch]; simp [tA]), (fun _ => by rw [e15]; exact ⟨hu, tr, hcc⟩), (fun e => by cases e), fun _ => trivial⟩⟩, .inr ⟨_, rfl, ⟨k + 1, w2, hc, ?_⟩, hm⟩⟩
      have r2 : RepS (rmT ⟨s.R2, s.xh1_1, s.xh1_2⟩ y.t) (rmL s.R2.size (y :: r) y.t) τ := r2
      have r3 : (rmT ⟨s.R2, s.xh1_1, s.xh1_2⟩ y.t).M.size = 65536 := r3.trans hz
      simp only [e14_1_8, e14_1_9, e14_1_10, e14, e14_1_16, e15]
      refine ⟨rmT_R tr, r3, _, τ, r2, ?_⟩
      rw [hlen]
      simp only [List.length_cons] at hl
      omega
  · have hd : e14_1_0 p s = true := by
      show cnd (decide (s.x85 < p.x84)) false true = true
      rw [g1, h84, decide_eq_false (by omega)]; rfl
    refine ⟨?_, .inl ⟨?_, hd, ?_⟩⟩
    · simp only [r14_1, hd, Tr.ok]
      exact ⟨fun _ => trivial, (fun e => by cases e)⟩
    · simp only [r14_1, hd, Tr.get]
      exact ⟨_, _, _, rfl⟩
    · have : n - k = 0 := by omega
      rw [this] at g3
      exact g3
theorem law14_true (v : V14) (hQ : v.Q = v.L) (ho : ∀ j, j < v.L → (Op.mk (v.ok j) (v.oa j) (v.ob j) (Sl.mk (v.kc j) (v.ac j) (v.bc j) (v.rc j) (v.gc j) (v.sc j) (v.mc j) 0 0 0)).R) (hx : U64 v.x) (hy : U64 v.y) : (f14 v).ok ∧ f14_10 v = true := by
  by_cases h12 : f14_12 v = true
  · have w : ∀ {P : Prop}, f14_12 v = false → P := fun h => by rw [h12] at h; cases h
    refine ⟨⟨trivial, fun _ h => w h, fun _ h => w h, fun _ h => w h, fun _ h => w h, fun _ h => w h, fun _ h => w h, trivial⟩, ?_⟩
    unfold f14_10; rw [h12]; rfl
  · have h12 : f14_12 v = false := by simpa using h12
    have hb := h12
    unfold f14_12 f14_11 at hb
    simp only [cnd_or, Bool.or_eq_false_iff, decide_eq_false_iff_not, bne_eq_false_iff_eq] at hb
    obtain ⟨⟨b1, b2⟩, b3⟩ := hb
    have h60 : v.L ≤ 60 := by omega
    have x0 := hx.1
    have x8 : v.x % 8 = 0 := by rw [← Int.tmod_eq_emod_of_nonneg x0]; exact b2
    have xl : v.x < 65536 := by omega
    have z0 : Zr (v.x / 32) op0.1.M := fun i _ => rfl
    have hM0 : mrgM true (wrM op0.1.M v.x v.y) op0.1.M = pk (v.x / 32) (gW v.x v.y) op0.1.M := by
      rw [mrg_t]
      exact wr_in x8 xl z0
    have h13 : f14_13 v = false := by
      unfold f14_13
      have : errI (szM op0.1.M) v.x = 0 := errI_0 x8 xl
      rw [this]; rfl
    have hTR : TR ⟨mrgM true (wrM op0.1.M v.x v.y) op0.1.M, 0, 0⟩ := ⟨by rw [mrg_t]; exact wr_MemR op0_R.1 hy, op0_R.2⟩
    have m0 : LT (r14_0 (f14_14 v)) (f14_15 v) ∧ (e14_0_0 (f14_14 v) (f14_16 v) = true → J14 v.x v.y v.L ⟨(f14_16 v).R2, (f14_16 v).xh1_1, (f14_16 v).xh1_2⟩) := l14_0 (p := f14_14 v) (s := f14_15 v) ⟨rfl, hQ, h60⟩ ho rfl ⟨hTR, op0.1, [], _, op0_rep, z0, rfl, Nat.le_refl _, by
        show TS.mk (mrgM true (wrM op0.1.M v.x v.y) op0.1.M) 0 0 = _
        rw [hM0]; rfl⟩
    obtain ⟨lt0, q0⟩ := m0
    cases h17 : f14_17 v with
    | true =>
      have w : ∀ {P : Prop}, f14_17 v = false → P := fun h => by rw [h17] at h; cases h
      refine ⟨⟨trivial, fun _ _ => trivial, fun _ _ _ => ⟨hx, hy⟩, fun _ _ _ => lt0, fun _ _ _ h => w h, fun _ _ _ h => w h, fun _ _ _ h => w h, trivial⟩, ?_⟩
      unfold f14_10; rw [h12, h13, h17]; rfl
    | false =>
      have he : e14_0_0 (f14_14 v) (f14_16 v) = true := by
        cases hq : e14_0_0 (f14_14 v) (f14_16 v) with
        | true => rfl
        | false => unfold f14_17 at h17; rw [hq] at h17; cases h17
      obtain ⟨tr, t, l, σ, hr, hz0, hz, hl, hu⟩ := q0 he
      have eM : f14_18 v = pk (v.x / 32) (gW v.x v.y) t.M := congrArg TS.M hu
      have ef : (f14_16 v).xh1_1 = t.f := congrArg TS.f hu
      have ec : (f14_16 v).xh1_2 = t.c := congrArg TS.c hu
      have xl2 : v.x < t.M.size := by rw [hz]; exact xl
      have h19 : f14_19 v = false := by
        unfold f14_19
        rw [eM]
        have k1 : errI (szM (pk (v.x / 32) (gW v.x v.y) t.M)) v.x = 0 := errI_0 x8 xl2
        have k2 : rdM (pk (v.x / 32) (gW v.x v.y) t.M) v.x = v.y := (pk_in rfl).trans (if_pos rfl)
        rw [k1, k2]
        show (v.y != v.y) = false
        exact bne_self_eq_false _
      have hback : wrM (f14_18 v) v.x 0 = t.M := by rw [eM]; exact wr_out x8 xl2 hz0
      have htt : TS.mk (wrM (f14_18 v) v.x 0) (f14_16 v).xh1_1 (f14_16 v).xh1_2 = t := by rw [hback, ef, ec]
      have trt : TR t := by
        rw [← htt]
        exact ⟨wr_MemR tr.1 u0, tr.2⟩
      have m1 : LT (r14_1 (f14_20 v)) (f14_21 v) ∧ (e14_1_0 (f14_20 v) (f14_22 v) = true ∧ J14b 0 ⟨(f14_22 v).R2, (f14_22 v).xh1_1, (f14_22 v).xh1_2⟩) := l14_1 (p := f14_20 v) (s := f14_21 v) (n := v.L) ⟨rfl, h60⟩ rfl (by
        show J14b v.L (TS.mk (wrM (f14_18 v) v.x 0) (f14_16 v).xh1_1 (f14_16 v).xh1_2)
        rw [htt]
        exact ⟨trt, hz, l, σ, hr, hl⟩)
      obtain ⟨lt1, q1, tr1, z1, l1, σ1, hr1, hl1⟩ := m1
      have hn : l1 = [] := List.eq_nil_of_length_eq_zero (by omega)
      subst hn
      have c1 : (f14_22 v).xh1_2 = 0 := hr1.c
      have c2 : wcn (f14_22 v).R2 = 0 := hr1.wcn0 z1
      refine ⟨⟨trivial, fun _ _ => trivial, fun _ _ _ => ⟨hx, hy⟩, fun _ _ _ => lt0, fun _ _ _ _ => hx, fun _ _ _ _ _ => ⟨hx, u0⟩, fun _ _ _ _ _ => lt1, trivial⟩, ?_⟩
      unfold f14_10
      rw [h12, h13, h17, h19, q1, c1, c2]
      rfl
set_option maxRecDepth 100000
def pre14 (v : V14) : Prop := v.Q = v.L ∧ (∀ j, j < v.L → (Op.mk (v.ok j) (v.oa j) (v.ob j) (Sl.mk (v.kc j) (v.ac j) (v.bc j) (v.rc j) (v.gc j) (v.sc j) (v.mc j) 0 0 0)).R) ∧ U64 v.x ∧ U64 v.y
theorem n14 (v : V14) (h : pre14 v) : (f14 v).ok ∧ (f14 v).get.1 = .bool true ∧ HOws (f14 v).get.2.1 [HO.ro 85 10 v.Q (fun j => [.int .i64 (v.ok j), .int .u64 (v.oa j), .int .u64 (v.ob j), .int .i64 (v.kc j), .int .u64 (v.ac j), .int .i64 (v.bc j), .int .i64 (v.rc j), .int .i64 (v.gc j), .int .i64 (v.sc j), .int .u64 (v.mc j)]) v.ob_] := by
  obtain ⟨k1, k2⟩ := law14_true v h.1 h.2.1 h.2.2.1 h.2.2.2
  exact ⟨k1, congrArg SV.bool k2, .refl _⟩
noncomputable def f14n (v : V14) : Tr (Fin th.R) := .need (pre14 v) (.leaf (.bool true, [.ro 85 10 v.Q (fun j => [.int .i64 (v.ok j), .int .u64 (v.oa j), .int .u64 (v.ob j), .int .i64 (v.kc j), .int .u64 (v.ac j), .int .i64 (v.bc j), .int .i64 (v.rc j), .int .i64 (v.gc j), .int .i64 (v.sc j), .int .u64 (v.mc j)]) v.ob_], []))
theorem s14n : Sound Try.prog th 14 (fnC d14 ofV14 f14n) := fnC_refine s14 fun v h => by
  obtain ⟨hp, _⟩ := h
  obtain ⟨a, b, c⟩ := n14 v hp
  exact ⟨a, b.symm, (qdd14 v).symm, c, by show 1 ≤ 1; decide⟩
theorem claw14 (v : V14) : fnC d14 ofV14 f14n (A14 v) (H14 v) = some (.need (∀ i, i < v.Q → (fun j => [.int .i64 (v.ok j), .int .u64 (v.oa j), .int .u64 (v.ob j), .int .i64 (v.kc j), .int .u64 (v.ac j), .int .i64 (v.bc j), .int .i64 (v.rc j), .int .i64 (v.gc j), .int .i64 (v.sc j), .int .u64 (v.mc j)] : Nat → List SV) i = elC (fun j => [.int .i64 (v.ok j), .int .u64 (v.oa j), .int .u64 (v.ob j), .int .i64 (v.kc j), .int .u64 (v.ac j), .int .i64 (v.bc j), .int .i64 (v.rc j), .int .i64 (v.gc j), .int .i64 (v.sc j), .int .u64 (v.mc j)] : Nat → List SV) 0 [.int .i64, .int .u64, .int .u64, .int .i64, .int .u64, .int .i64, .int .i64, .int .i64, .int .i64, .int .u64] i) ((f14n v).map (fixF (H14 v)))) := by kernel_rfl
end Go.Sx.M

