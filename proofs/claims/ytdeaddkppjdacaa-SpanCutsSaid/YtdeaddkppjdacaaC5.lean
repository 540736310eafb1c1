/- Contracts of the functions of this seat, each by the executor and the kernel; part 5. Their conditions stand in each. -/
import Derived.Test.YtdeaddkppjdacaaC4
set_option linter.unusedVariables false
set_option linter.unusedSimpArgs false
namespace Go.Sx.S
open Go Go.Sx Go.Proofs Go.RowKit
set_option maxRecDepth 100000
open So
def pre30 (v : V30) : Prop := v.L ≤ v.M ∧ v.L ≤ 10000000000
/-- What is cut out of the union. -/
noncomputable def CT (E : Nat → Sp) (L : Nat) (g : Sp) : List Sp := ctl g (UN E L)
theorem seg_push {A B : Nat → Int} {m : Nat} {x : Sp} : seg (sp (fun j => cnd (j.blt m) (A j) x.1) fun j => cnd (j.blt m) (B j) x.2) 0 (m + 1) = seg (sp A B) 0 m ++ [x] := by
  rw [seg_succ]
  congr 1
  · exact seg_congr fun j hj => by simp [sp, cndB, bltT, hj]
  · simp [sp, cndB, bltT]
theorem l30 {m M : Nat} {F G F' G' : Nat → Int} {ob : Obj} {U : Nat → Sp} {g : Sp} (hm : m ≤ 10000000000) :
    LT (r30_0 (P30_0.mk m (m : Int) M ob F G g.1 g.2 m (fun j => (U j).fst) fun j => (U j).snd)) (S30_0.mk 0 0 0 F' G') ∧
      (fun s : S30_0 => s.N3 = s.n5 ∧ seg (sp s.F3_0 s.F3_1) 0 s.n5 = ctl g (seg U 0 m)) (lastS (r30_0 (P30_0.mk m (m : Int) M ob F G g.1 g.2 m (fun j => (U j).fst) fun j => (U j).snd)) (S30_0.mk 0 0 0 F' G')) := by
  refine LT.post (fun s : S30_0 => ∃ i : Nat, s.x13 = i ∧ i ≤ m ∧ s.N3 = s.n5 ∧ seg (sp s.F3_0 s.F3_1) 0 s.n5 = ctl g (seg U 0 i))
    (fun s : S30_0 => s.N3 = s.n5 ∧ seg (sp s.F3_0 s.F3_1) 0 s.n5 = ctl g (seg U 0 m)) (fun s : S30_0 => (m - s.x13).toNat) ?_ ?_
  rotate_left
  · exact ⟨0, rfl, Nat.zero_le _, rfl, rfl⟩
  rintro ⟨k, x, N3, A, B⟩ ⟨i, g1, g2, g3, g5⟩
  simp only at g1 g3 g5
  subst g1 g3
  have w2 : IntKind.i64.wrap ((i : Int) + 1) = ((i + 1 : Nat) : Int) := by rw [wi (by omega) (by omega)]; omega
  have hk : N3 ≤ 2 * i := by
    have := ctl_len g (seg U 0 i)
    rw [← g5, seg_length, seg_length] at this
    exact this
  have dec := meets_dec (U i) g
  have d1 : f11_0 (U i).1 g.1 = decide ((U i).1 < g.1) := rfl
  have d2 : f11_0 g.2 (U i).2 = decide (g.2 < (U i).2) := rfl
  have su : ctl g (seg U 0 (i + 1)) = seg (sp A B) 0 N3 ++ cut g (U i) := by rw [seg_succ, ctl_snoc, ← g5]
  simp only [r30_0, e30_0_0, e30_0_2, e30_0_3, e30_0_4, e30_0_7, e30_0_10, e30_0_13, e30_0_14, e30_0_16, e30_0_17, e30_0_18, e30_0_19, e30_0_20, e30_0_21, e30_0_23, e30_0_24, e30_0_25, e30_0_27, e30_0_29, Tr.ok, Tr.get, w2, Nat.zero_add, Int.toNat_natCast, dec, d1, d2]
  by_cases hc : i < m
  · have hd : cnd (decide ((i : Int) < (m : Int))) false true = false := by rw [decide_eq_true (by omega)]; rfl
    rw [hd]
    refine ⟨⟨(fun e => by cases e), fun _ => ?_⟩, .inr ?_⟩
    · (repeat' apply And.intro) <;> intros <;> (repeat' apply And.intro) <;> intros <;> (repeat' apply And.intro) <;> intros <;> (repeat' apply And.intro) <;> intros <;> first | trivial | omega
    by_cases h0 : mts (U i) g
    · rw [decide_eq_true h0]
      by_cases h1 : (U i).1 < g.1
      · rw [decide_eq_true h1]
        by_cases h2 : g.2 < (U i).2
        · rw [decide_eq_true h2]
          refine ⟨_, rfl, ⟨i + 1, rfl, by omega, rfl, ?_⟩, by simp only [w2]; omega⟩
          rw [su, cut, if_pos h0, if_pos h1, if_pos h2]
          refine (seg_push (m := N3 + 1) (x := (g.2, (U i).2))).trans ?_
          rw [seg_push (x := ((U i).1, g.1))]
          simp
        · rw [decide_eq_false h2]
          refine ⟨_, rfl, ⟨i + 1, rfl, by omega, rfl, ?_⟩, by simp only [w2]; omega⟩
          rw [su, cut, if_pos h0, if_pos h1, if_neg h2, List.append_nil]
          exact seg_push (x := ((U i).1, g.1))
      · rw [decide_eq_false h1]
        by_cases h2 : g.2 < (U i).2
        · rw [decide_eq_true h2]
          refine ⟨_, rfl, ⟨i + 1, rfl, by omega, rfl, ?_⟩, by simp only [w2]; omega⟩
          rw [su, cut, if_pos h0, if_neg h1, if_pos h2, List.nil_append]
          exact seg_push (x := (g.2, (U i).2))
        · rw [decide_eq_false h2]
          refine ⟨_, rfl, ⟨i + 1, rfl, by omega, rfl, ?_⟩, by simp only [w2]; omega⟩
          rw [su, cut, if_pos h0, if_neg h1, if_neg h2, List.append_nil, List.append_nil]
    · rw [decide_eq_false h0]
      refine ⟨_, rfl, ⟨i + 1, rfl, by omega, rfl, ?_⟩, by simp only [w2]; omega⟩
      rw [su, cut, if_neg h0]
      exact seg_push (x := U i)
  · have hd : cnd (decide ((i : Int) < (m : Int))) false true = true := by rw [decide_eq_false (by omega)]; rfl
    have : i = m := by omega
    subst this
    rw [hd]
    exact ⟨⟨fun _ => trivial, (fun e => by cases e)⟩, .inl ⟨⟨_, _, _, rfl⟩, by first | rfl | trivial, g5⟩⟩
theorem UN_len (E : Nat → Sp) (L : Nat) : (UN E L).length ≤ L := by
  have h1 : ∀ l : List Sp, ∀ u : List Sp, (l.foldl ust u).length ≤ u.length + l.length := by
    intro l
    induction l with
    | nil => intro u; exact Nat.le_refl _
    | cons x l ih =>
      intro u
      have h := ih (ust u x)
      have : (ust u x).length ≤ u.length + 1 := by
        rcases snoc_cases u with rfl | ⟨v, w, rfl⟩
        · exact Nat.le_refl _
        · rw [ust_snoc]; split <;> simp
      rw [List.foldl_cons, List.length_cons]
      omega
  have h2 := h1 (RS E L) []
  have h3 : (RS E L).length ≤ L := flt_length _ _
  have h4 : (UN E L).length ≤ 0 + (RS E L).length := h2
  omega
theorem n30 (v : V30) (h : pre30 v) : (f30 v).ok ∧ (f30 v).get.1 = .slc 3 2 0 (CT (sp v.F v.G) v.L (v.gf, v.gt_)).length ∧
    HOws (f30 v).get.2.1 [HO.ro 27 2 v.M (fun j => [SV.int .u64 (v.F j), SV.int .u64 (v.G j)]) v.ob, HO.cells 27 [SV.int .u64 v.gf, SV.int .u64 v.gt_], rowQ (UN (sp v.F v.G) v.L).length (gt (UN (sp v.F v.G) v.L)), rowQ (CT (sp v.F v.G) v.L (v.gf, v.gt_)).length (gt (CT (sp v.F v.G) v.L (v.gf, v.gt_)))] := by
  cases v with
  | mk L gf gt_ M ob F G =>
  obtain ⟨h1, h2⟩ : L ≤ M ∧ L ≤ 10000000000 := h
  have hn := UN_len (sp F G) L
  obtain ⟨k1, k2, k3⟩ := l30 (M := M) (F := F) (G := G) (F' := colI (fun j => []) 0) (G' := colI (fun j => []) 1) (ob := ob) (U := gt (UN (sp F G) L)) (g := (gf, gt_)) (m := (UN (sp F G) L).length) (by omega)
  rw [gt_seg] at k3
  have k3 : seg (sp (f30z0 (V30.mk L gf gt_ M ob F G)).F3_0 (f30z0 (V30.mk L gf gt_ M ob F G)).F3_1) 0 (f30z0 (V30.mk L gf gt_ M ob F G)).n5 = CT (sp F G) L (gf, gt_) := k3
  have k4 : (f30z0 (V30.mk L gf gt_ M ob F G)).n5 = (CT (sp F G) L (gf, gt_)).length := by rw [← k3, seg_length]
  have k2 : (f30z0 (V30.mk L gf gt_ M ob F G)).N3 = (CT (sp F G) L (gf, gt_)).length := Eq.trans k2 k4
  refine ⟨⟨⟨h1, by show L ≤ 30000000000; omega⟩, k1, trivial⟩, congrArg (SV.slc 3 2 0) k4, ?_⟩
  show HOws [_, _, _, HO.row 27 2 (f30z0 (V30.mk L gf gt_ M ob F G)).N3 _] _
  rw [k2]
  refine .cons (.refl _) (.cons (.refl _) (.cons (.refl _) (.cons (.row fun i hi => ?_) .nil)))
  have := gt_of k3 i (by omega)
  show [SV.int .u64 _, SV.int .u64 _] = [SV.int .u64 _, SV.int .u64 _]
  rw [this]
  rfl
noncomputable def f30n (v : V30) : Tr (Fin th.R) := .need (pre30 v) (.leaf (.slc 3 2 0 (CT (sp v.F v.G) v.L (v.gf, v.gt_)).length, [.ro 27 2 v.M (fun j => [.int .u64 (v.F j), .int .u64 (v.G j)]) v.ob, .cells 27 [.int .u64 v.gf, .int .u64 v.gt_], rowQ (UN (sp v.F v.G) v.L).length (So.gt (UN (sp v.F v.G) v.L)), rowQ (CT (sp v.F v.G) v.L (v.gf, v.gt_)).length (So.gt (CT (sp v.F v.G) v.L (v.gf, v.gt_)))], []))
theorem s30n : Sound Try.prog th 30 (fnC d30 ofV30 f30n) := fnC_refine s30 fun v h => by
  obtain ⟨hp, _⟩ := h
  obtain ⟨a, b, c⟩ := n30 v hp
  exact ⟨a, b.symm, (qdd30 v).symm, c, by show 1 ≤ 4; decide⟩
structure V30w where
  L : Nat
  gf : Int
  gt_ : Int
  M : Nat
  F : Nat → Int
  G : Nat → Int
def inj30 (v : V30w) (o : Obj) : V30 := ⟨v.L, v.gf, v.gt_, v.M, o, v.F, v.G⟩
def A30w (v : V30w) : List SV := [.slc 0 2 0 v.L, .agg [.int .u64 v.gf, .int .u64 v.gt_]]
def H30w (v : V30w) : List (HO th.R) := [.row 27 2 v.M (fun j => [.int .u64 (v.F j), .int .u64 (v.G j)])]
def toV30w (v : V30w) : List (Vl th.R) := [.n v.L, .i v.gf, .i v.gt_, .n v.M, .c v.F, .c v.G]
def ofV30w : List (Vl th.R) → Option V30w
  | [.n L, .i gf, .i gt_, .n M, .c F, .c G] => some ⟨L, gf, gt_, M, F, G⟩
  | _ => none
def d30w : Ft := ⟨[.slc0 0 2, .agg [.int .u64, .int .u64]], [.rowc 27 [.int .u64, .int .u64]]⟩
noncomputable def f30w (v : V30w) : Tr (Fin th.R) := .need (pre30 (inj30 v (.cells #[] 0))) (.leaf (.slc 3 2 0 (CT (sp (inj30 v (.cells #[] 0)).F (inj30 v (.cells #[] 0)).G) (inj30 v (.cells #[] 0)).L ((inj30 v (.cells #[] 0)).gf, (inj30 v (.cells #[] 0)).gt_)).length, [.row 27 2 v.M (fun j => [.int .u64 (v.F j), .int .u64 (v.G j)]), .cells 27 [.int .u64 (inj30 v (.cells #[] 0)).gf, .int .u64 (inj30 v (.cells #[] 0)).gt_], rowQ (UN (sp (inj30 v (.cells #[] 0)).F (inj30 v (.cells #[] 0)).G) (inj30 v (.cells #[] 0)).L).length (So.gt (UN (sp (inj30 v (.cells #[] 0)).F (inj30 v (.cells #[] 0)).G) (inj30 v (.cells #[] 0)).L)), rowQ (CT (sp (inj30 v (.cells #[] 0)).F (inj30 v (.cells #[] 0)).G) (inj30 v (.cells #[] 0)).L ((inj30 v (.cells #[] 0)).gf, (inj30 v (.cells #[] 0)).gt_)).length (So.gt (CT (sp (inj30 v (.cells #[] 0)).F (inj30 v (.cells #[] 0)).G) (inj30 v (.cells #[] 0)).L ((inj30 v (.cells #[] 0)).gf, (inj30 v (.cells #[] 0)).gt_)))], []))
theorem cw30 (v : V30w) (o : Obj) : fnC d30 ofV30 f30n (A30 (inj30 v o)) (H30 (inj30 v o)) = some (.need (∀ i, i < v.M → (fun j => [.int .u64 (v.F j), .int .u64 (v.G j)] : Nat → List SV) i = elC (fun j => [.int .u64 (v.F j), .int .u64 (v.G j)] : Nat → List SV) 0 [.int .u64, .int .u64] i) ((f30n (inj30 v o)).map (fixF (H30 (inj30 v o))))) := by kernel_rfl
theorem s30w : Sound Try.prog th 30 (fnC d30w ofV30w f30w) := by
  refine fnC_direct (T := th) d30w A30w H30w toV30w (by kernel_rfl) (fun v => by kernel_rfl) ?_ ?_ (fun v _ => Nat.le_add_left _ _) (fun v _ n hn _ => ?_)
  · intro l v h
    unfold ofV30w at h
    split at h
    · cases h; rfl
    · cases h
  · intro v hok K w0 ρ w vargs I hr
    obtain ⟨hp, _⟩ := hok
    exact ro_row (tl := [.cells 27 [.int .u64 (inj30 v (.cells #[] 0)).gf, .int .u64 (inj30 v (.cells #[] 0)).gt_], rowQ (UN (sp (inj30 v (.cells #[] 0)).F (inj30 v (.cells #[] 0)).G) (inj30 v (.cells #[] 0)).L).length (So.gt (UN (sp (inj30 v (.cells #[] 0)).F (inj30 v (.cells #[] 0)).G) (inj30 v (.cells #[] 0)).L)), rowQ (CT (sp (inj30 v (.cells #[] 0)).F (inj30 v (.cells #[] 0)).G) (inj30 v (.cells #[] 0)).L ((inj30 v (.cells #[] 0)).gf, (inj30 v (.cells #[] 0)).gt_)).length (So.gt (CT (sp (inj30 v (.cells #[] 0)).F (inj30 v (.cells #[] 0)).G) (inj30 v (.cells #[] 0)).L ((inj30 v (.cells #[] 0)).gf, (inj30 v (.cells #[] 0)).gt_)))]) (val := .slc 3 2 0 (CT (sp (inj30 v (.cells #[] 0)).F (inj30 v (.cells #[] 0)).G) (inj30 v (.cells #[] 0)).L ((inj30 v (.cells #[] 0)).gf, (inj30 v (.cells #[] 0)).gt_)).length) (fun o K w0 ρ w vargs I hr => fnC_out s30n (cw30 v o) ⟨fun i _ => rfl, hp, trivial⟩ I hr) I hr
  · have hn : n < 1 := hn
    have : n = 0 := by omega
    subst this; rfl
noncomputable def nice30n : List (Nat × CF th.R) := (30, lift (orC (fnC d30 ofV30 f30n) (fnC d30w ofV30w f30w))) :: nice24n
theorem nok30n : NiceOk Try.prog th nice30n := ⟨lift_sound (orC_sound s30n s30w), nok24n⟩
end Go.Sx.S

namespace Go.Sx.S
open Go Go.Sx Go.Proofs Go.RowKit
set_option maxRecDepth 100000
structure V8 where
  L : Nat
  gf : Int
  gt_ : Int
  at_ : Int
  M : Nat
  ob : Obj
  F : Nat → Int
  G : Nat → Int
def A8 (v : V8) : List SV := [.slc 0 2 0 v.L, .agg [.int .u64 v.gf, .int .u64 v.gt_], .int .u64 v.at_]
def H8 (v : V8) : List (HO th.R) := [.ro 27 2 v.M (fun j => [.int .u64 (v.F j), .int .u64 (v.G j)]) v.ob]
def toV8 (v : V8) : List (Vl th.R) := [.n v.L, .i v.gf, .i v.gt_, .i v.at_, .n v.M, .o v.ob, .c v.F, .c v.G]
def ofV8 : List (Vl th.R) → Option V8
  | [.n L, .i gf, .i gt_, .i at_, .n M, .o ob, .c F, .c G] => some ⟨L, gf, gt_, at_, M, ob, F, G⟩
  | _ => none
def d8 : Ft := ⟨[.slc0 0 2, .agg [.int .u64, .int .u64], .int .u64], [.roc 27 [.int .u64, .int .u64]]⟩
structure P8_0 where
  n0 : Nat
  x2 : Int
  b6 : Bool
  n7 : Nat
  n18 : Nat
  x19 : Int
  N0 : Nat
  O0 : Obj
  F0_0 : Nat → Int
  F0_1 : Nat → Int
  xh1_0 : Int
  xh1_1 : Int
  N2 : Nat
  F2_0 : Nat → Int
  F2_1 : Nat → Int
structure S8_0 where
  x20 : Int
instance : Inhabited S8_0 := ⟨⟨0⟩⟩
def I8_0 (p : P8_0) (s : S8_0) : St th.R := ⟨[some (.slc 0 2 0 p.n0), none, some (.int .u64 p.x2), none, some (.ptr 1 0), none, some (.bool p.b6), some (.slc 2 2 0 p.n7), none, none, none, none, none, none, none, none, none, none, some (.slc 2 2 0 p.n18), some (.int .i64 p.x19), some (.int .i64 s.x20), none, none, none, none, none, none, none, none, none, none, none, none, none, none, none, none, none, none, none, none, none, none, none, none, none, none, none, none, none], [.ro 27 2 p.N0 (fun j => [.int .u64 (p.F0_0 j), .int .u64 (p.F0_1 j)]) p.O0, .cells 27 [.int .u64 p.xh1_0, .int .u64 p.xh1_1], .row 27 2 p.N2 (fun j => [.int .u64 (p.F2_0 j), .int .u64 (p.F2_1 j)])], [], []⟩
def d8_0 : Lp := ⟨⟨50, [(0, .slc0 0 2), (2, .int .u64), (4, .ptr 1 0), (6, .bool), (7, .slc0 2 2), (18, .slc0 2 2), (19, .int .i64), (20, .int .i64)], [.roc 27 [.int .u64, .int .u64], .cells 27 [.int .u64, .int .u64], .rowc 27 [.int .u64, .int .u64]]⟩, [], 3, [], [0, 2, 4, 6, 7, 36, 37, 38, 39, 40, 41, 42, 43, 44, 45, 46, 47, 48], []⟩
def toV8_0 (p : P8_0) (s : S8_0) : List (Vl th.R) := [.n p.n0, .i p.x2, .b p.b6, .n p.n7, .n p.n18, .i p.x19, .i s.x20, .n p.N0, .o p.O0, .c p.F0_0, .c p.F0_1, .i p.xh1_0, .i p.xh1_1, .n p.N2, .c p.F2_0, .c p.F2_1]
def ofV8_0 : List (Vl th.R) → Option (P8_0 × S8_0)
  | [.n n0, .i x2, .b b6, .n n7, .n n18, .i x19, .i x20, .n N0, .o O0, .c F0_0, .c F0_1, .i xh1_0, .i xh1_1, .n N2, .c F2_0, .c F2_1] => some (⟨n0, x2, b6, n7, n18, x19, N0, O0, F0_0, F0_1, xh1_0, xh1_1, N2, F2_0, F2_1⟩, ⟨x20⟩)
  | _ => none
noncomputable def e8_0_0 (p : P8_0) (s : S8_0) : (Bool) := cnd (decide (s.x20 < p.x19)) false true
noncomputable def e8_0_1 (p : P8_0) (s : S8_0) : (Prop) := (∀ (i : Nat), scpL (0:Nat) ((fun (j : Nat) => [SV.int IntKind.u64 (p.F0_0 j), SV.int IntKind.u64 (p.F0_1 j)]) i) = true) ∧ ∀ (i : Nat), scpL (0:Nat) ((fun (j : Nat) => [SV.int IntKind.u64 (p.F2_0 j), SV.int IntKind.u64 (p.F2_1 j)]) i) = true
noncomputable def e8_0_2 (p : P8_0) (s : S8_0) : (Prop) := (0 : Int) ≤ s.x20 ∧ s.x20 < (↑p.n18 : Int)
noncomputable def e8_0_3 (p : P8_0) (s : S8_0) : (Prop) := (0:Nat) + s.x20.toNat < p.N2
noncomputable def e8_0_4 (p : P8_0) (s : S8_0) : (Bool) := cnd (f13_0 (p.F2_0 ((0:Nat) + s.x20.toNat)) (p.F2_1 ((0:Nat) + s.x20.toNat)) p.xh1_0 p.xh1_1) true !f11_0 (p.F2_0 ((0:Nat) + s.x20.toNat)) (p.F2_1 ((0:Nat) + s.x20.toNat))
noncomputable def e8_0_5 (p : P8_0) (s : S8_0) : (Prop) := ((∀ (i : Nat), scpL (0:Nat) ((fun (j : Nat) => [SV.int IntKind.u64 (p.F0_0 j), SV.int IntKind.u64 (p.F0_1 j)]) i) = true) ∧ ∀ (i : Nat), scpL (0:Nat) ((fun (j : Nat) => [SV.int IntKind.u64 (p.F2_0 j), SV.int IntKind.u64 (p.F2_1 j)]) i) = true) ∧ (∀ (i : Nat), i < p.N0 → (fun (j : Nat) => [SV.int IntKind.u64 (p.F0_0 j), SV.int IntKind.u64 (p.F0_1 j)]) i = elC (fun (j : Nat) => [SV.int IntKind.u64 (p.F0_0 j), SV.int IntKind.u64 (p.F0_1 j)]) (0:Nat) [Ck.int IntKind.u64, Ck.int IntKind.u64] i) ∧ ∀ (i : Nat), i < p.N2 → (fun (j : Nat) => [SV.int IntKind.u64 (p.F2_0 j), SV.int IntKind.u64 (p.F2_1 j)]) i = elC (fun (j : Nat) => [SV.int IntKind.u64 (p.F2_0 j), SV.int IntKind.u64 (p.F2_1 j)]) (0:Nat) [Ck.int IntKind.u64, Ck.int IntKind.u64] i
noncomputable def e8_0_6 (p : P8_0) (s : S8_0) : (Int) := IntKind.i64.wrap (s.x20 + (1 : Int))
theorem n_e8_0_1 (p : P8_0) (s : S8_0) : e8_0_1 p s := by
  unfold e8_0_1
  first
    | (intros; rfl)
    | (intro i; rfl)
    | (intro i _; rfl)
    | (intro _ i; rfl)
    | (intro _ i _; rfl)
    | (refine ⟨?_, ?_⟩ <;> intro i <;> rfl)
    | (refine ⟨?_, ?_, ?_⟩ <;> intro i <;> rfl)
    | (refine ⟨?_, ?_⟩ <;> intro i _ <;> rfl)
    | (repeat' apply And.intro) <;> first | (intro i; rfl) | (intro i _; rfl) | (intro i h; exact absurd h (Nat.not_lt_zero i)) | (intro i; exact scpL_rowSet (by rfl) (by rfl)) | (intro i; exact scpL_rowEl (by kernel_rfl) _)
    | (intros; (repeat' apply And.intro) <;> intros <;> first | rfl | (exact absurd (by assumption) (Nat.not_lt_zero _)))
    | omega
    | decide
theorem n_e8_0_5 (p : P8_0) (s : S8_0) : e8_0_5 p s := by
  unfold e8_0_5
  first
    | (intros; rfl)
    | (intro i; rfl)
    | (intro i _; rfl)
    | (intro _ i; rfl)
    | (intro _ i _; rfl)
    | (refine ⟨?_, ?_⟩ <;> intro i <;> rfl)
    | (refine ⟨?_, ?_, ?_⟩ <;> intro i <;> rfl)
    | (refine ⟨?_, ?_⟩ <;> intro i _ <;> rfl)
    | (repeat' apply And.intro) <;> first | (intro i; rfl) | (intro i _; rfl) | (intro i h; exact absurd h (Nat.not_lt_zero i)) | (intro i; exact scpL_rowSet (by rfl) (by rfl)) | (intro i; exact scpL_rowEl (by kernel_rfl) _)
    | (intros; (repeat' apply And.intro) <;> intros <;> first | rfl | (exact absurd (by assumption) (Nat.not_lt_zero _)))
    | omega
    | decide
noncomputable def rf8_0 (p : P8_0) (s : S8_0) : Tr (Rs th.R S8_0) := (Tr.ite (e8_0_0 p s) (Tr.need (e8_0_1 p s) (Tr.leaf (Rs.out (Ex.exit ((0:Nat))) (List.cons (Option.some (SV.slc ((0:Nat)) ((2 : Nat)) ((0:Nat)) (p.n0))) (none :: (List.cons (Option.some (SV.int (IntKind.u64) (p.x2))) (none :: (List.cons (Option.some (SV.ptr ((1 : Nat)) ((0:Nat)))) (none :: (List.cons (Option.some (SV.bool (p.b6))) (List.cons (Option.some (SV.slc ((2 : Nat)) ((2 : Nat)) ((0:Nat)) (p.n7))) (none :: (none :: (none :: (none :: (none :: (none :: (none :: (none :: (none :: (none :: (none :: (none :: (none :: (none :: (none :: (none :: (none :: (none :: (none :: (none :: (none :: (none :: (none :: (none :: (none :: (none :: (none :: (none :: (none :: (none :: (none :: (none :: (none :: (none :: (none :: (none :: (none :: (none :: (none :: (none :: (none :: (none :: [])))))))))))))))))))))))))))))))))))))))))))))))))) (List.cons (HO.ro ((27 : Nat)) ((2 : Nat)) (p.N0) (fun j => (List.cons (SV.int (IntKind.u64) (p.F0_0 j)) (List.cons (SV.int (IntKind.u64) (p.F0_1 j)) []))) (p.O0)) (List.cons (HO.cells ((27 : Nat)) (List.cons (SV.int (IntKind.u64) (p.xh1_0)) (List.cons (SV.int (IntKind.u64) (p.xh1_1)) []))) (List.cons (HO.row ((27 : Nat)) ((2 : Nat)) (p.N2) (fun j => (List.cons (SV.int (IntKind.u64) (p.F2_0 j)) (List.cons (SV.int (IntKind.u64) (p.F2_1 j)) [])))) [])))))) (Tr.need (e8_0_2 p s) (Tr.need (e8_0_3 p s) (Tr.ite (e8_0_4 p s) (Tr.need (e8_0_1 p s) (Tr.leaf (Rs.out (Ex.ret) (List.cons (Option.some (SV.slc ((0:Nat)) ((2 : Nat)) ((0:Nat)) (p.n0))) (none :: (List.cons (Option.some (SV.int (IntKind.u64) (p.x2))) (none :: (List.cons (Option.some (SV.ptr ((1 : Nat)) ((0:Nat)))) (none :: (List.cons (Option.some (SV.bool (false))) (List.cons (Option.some (SV.slc ((2 : Nat)) ((2 : Nat)) ((0:Nat)) (p.n7))) (none :: (none :: (none :: (none :: (none :: (none :: (none :: (none :: (none :: (none :: (none :: (none :: (none :: (none :: (none :: (none :: (none :: (none :: (none :: (none :: (none :: (none :: (none :: (none :: (none :: (none :: (none :: (none :: (none :: (none :: (none :: (none :: (none :: (none :: (none :: (none :: (none :: (none :: (none :: (none :: (none :: (none :: [])))))))))))))))))))))))))))))))))))))))))))))))))) (List.cons (HO.ro ((27 : Nat)) ((2 : Nat)) (p.N0) (fun j => (List.cons (SV.int (IntKind.u64) (p.F0_0 j)) (List.cons (SV.int (IntKind.u64) (p.F0_1 j)) []))) (p.O0)) (List.cons (HO.cells ((27 : Nat)) (List.cons (SV.int (IntKind.u64) (p.xh1_0)) (List.cons (SV.int (IntKind.u64) (p.xh1_1)) []))) (List.cons (HO.row ((27 : Nat)) ((2 : Nat)) (p.N2) (fun j => (List.cons (SV.int (IntKind.u64) (p.F2_0 j)) (List.cons (SV.int (IntKind.u64) (p.F2_1 j)) [])))) [])))))) (Tr.need (e8_0_5 p s) (Tr.leaf (Rs.on (S8_0.mk ((e8_0_6 p s))))))))))
noncomputable def r8_0 (p : P8_0) (s : S8_0) : Tr (Rs th.R S8_0) := (Tr.ite (e8_0_0 p s) (Tr.leaf (Rs.out (Ex.exit ((0:Nat))) (List.cons (Option.some (SV.slc ((0:Nat)) ((2 : Nat)) ((0:Nat)) (p.n0))) (none :: (List.cons (Option.some (SV.int (IntKind.u64) (p.x2))) (none :: (List.cons (Option.some (SV.ptr ((1 : Nat)) ((0:Nat)))) (none :: (List.cons (Option.some (SV.bool (p.b6))) (List.cons (Option.some (SV.slc ((2 : Nat)) ((2 : Nat)) ((0:Nat)) (p.n7))) (none :: (none :: (none :: (none :: (none :: (none :: (none :: (none :: (none :: (none :: (none :: (none :: (none :: (none :: (none :: (none :: (none :: (none :: (none :: (none :: (none :: (none :: (none :: (none :: (none :: (none :: (none :: (none :: (none :: (none :: (none :: (none :: (none :: (none :: (none :: (none :: (none :: (none :: (none :: (none :: (none :: (none :: [])))))))))))))))))))))))))))))))))))))))))))))))))) (List.cons (HO.ro ((27 : Nat)) ((2 : Nat)) (p.N0) (fun j => (List.cons (SV.int (IntKind.u64) (p.F0_0 j)) (List.cons (SV.int (IntKind.u64) (p.F0_1 j)) []))) (p.O0)) (List.cons (HO.cells ((27 : Nat)) (List.cons (SV.int (IntKind.u64) (p.xh1_0)) (List.cons (SV.int (IntKind.u64) (p.xh1_1)) []))) (List.cons (HO.row ((27 : Nat)) ((2 : Nat)) (p.N2) (fun j => (List.cons (SV.int (IntKind.u64) (p.F2_0 j)) (List.cons (SV.int (IntKind.u64) (p.F2_1 j)) [])))) []))))) (Tr.need (e8_0_2 p s) (Tr.need (e8_0_3 p s) (Tr.ite (e8_0_4 p s) (Tr.leaf (Rs.out (Ex.ret) (List.cons (Option.some (SV.slc ((0:Nat)) ((2 : Nat)) ((0:Nat)) (p.n0))) (none :: (List.cons (Option.some (SV.int (IntKind.u64) (p.x2))) (none :: (List.cons (Option.some (SV.ptr ((1 : Nat)) ((0:Nat)))) (none :: (List.cons (Option.some (SV.bool (false))) (List.cons (Option.some (SV.slc ((2 : Nat)) ((2 : Nat)) ((0:Nat)) (p.n7))) (none :: (none :: (none :: (none :: (none :: (none :: (none :: (none :: (none :: (none :: (none :: (none :: (none :: (none :: (none :: (none :: (none :: (none :: (none :: (none :: (none :: (none :: (none :: (none :: (none :: (none :: (none :: (none :: (none :: (none :: (none :: (none :: (none :: (none :: (none :: (none :: (none :: (none :: (none :: (none :: (none :: (none :: [])))))))))))))))))))))))))))))))))))))))))))))))))) (List.cons (HO.ro ((27 : Nat)) ((2 : Nat)) (p.N0) (fun j => (List.cons (SV.int (IntKind.u64) (p.F0_0 j)) (List.cons (SV.int (IntKind.u64) (p.F0_1 j)) []))) (p.O0)) (List.cons (HO.cells ((27 : Nat)) (List.cons (SV.int (IntKind.u64) (p.xh1_0)) (List.cons (SV.int (IntKind.u64) (p.xh1_1)) []))) (List.cons (HO.row ((27 : Nat)) ((2 : Nat)) (p.N2) (fun j => (List.cons (SV.int (IntKind.u64) (p.F2_0 j)) (List.cons (SV.int (IntKind.u64) (p.F2_1 j)) [])))) []))))) (Tr.leaf (Rs.on (S8_0.mk ((e8_0_6 p s)))))))))
noncomputable def E8_0 : St th.R → Out th := evCode th Try.prog (auto th Try.prog nice30n [] 20) (autoH [] [] [] [] : Hints th) (lpAt Try.prog 8 0)
theorem B8_0 : CodeSound th Try.prog (lpAt Try.prog 8 0) E8_0 := evCode_sound (T := th) (P := Try.prog) (tbl := (auto th Try.prog nice30n [] 20)) (auto_sound (nice := nice30n) (us := []) nok30n 20) (autoH [] [] [] [] : Hints th) _ (LoopsOk_mem (fun _ => rfl) _ fun b hb L hL => by cases hL)
noncomputable def L8_0 : St th.R → Out th := loopL d8_0 ofV8_0 r8_0
theorem h1_8_0 (p : P8_0) (s : S8_0) : bld d8_0.tm (toV8_0 p s) = some (I8_0 p s) := by kernel_rfl
theorem h2_8_0 (l : List (Vl th.R)) (p : P8_0) (s : S8_0) (h : ofV8_0 l = some (p, s)) : l = toV8_0 p s := by
  unfold ofV8_0 at h
  split at h
  · cases h; rfl
  · cases h
theorem h3_8_0 (p : P8_0) (s : S8_0) : cvE d8_0 (E8_0 (I8_0 p s)) = some ((rf8_0 p s).map (Rs.map (toV8_0 p))) := by kernel_rfl
theorem h3g_8_0 (p : P8_0) (s : S8_0) : (rf8_0 p s).get = (r8_0 p s).get := by kernel_rfl
theorem h4_8_0 (p : P8_0) (s s1 : S8_0) : outH d8_0.dirt d8_0.n0 (r8_0 p s) = repH (maskH d8_0.dirt 0 d8_0.n0 (I8_0 p s1).heap) (r8_0 p s) := by kernel_rfl
theorem ls8_0 : CodeSound th Try.prog (.loop (lpAt Try.prog 8 0)) L8_0 := loopL_sound B8_0 d8_0 I8_0 toV8_0 (by kernel_rfl) h1_8_0 h2_8_0
  (fun p s => ⟨(rf8_0 p s).map (Rs.map (toV8_0 p)), h3_8_0 p s, fun h => by
    rw [Tr.map_ok]
    unfold r8_0 at h; unfold rf8_0
    simp only [Tr.ok, n_e8_0_1, n_e8_0_5, true_and, and_true, forall_const, implies_true] at h ⊢
    try exact h, by rw [Tr.map_get, h3g_8_0 p s]⟩) h4_8_0
theorem ok8 : LoopsOk th Try.prog (autoH [(7, L8_0)] [] [] [] : Hints th) (bodyOf Try.prog 8) := autoH_ok (bs := [lpAt Try.prog 8 0]) (by kernel_rfl) fun b hb L hL => by
  simp only [List.mem_cons, List.not_mem_nil, or_false] at hb
  rcases hb with rfl
  · have e : lookL [(7, L8_0)] (firstReg (lpAt Try.prog 8 0)) = some L8_0 := by kernel_rfl
    rw [e] at hL; cases hL
    exact ls8_0
noncomputable def f8_0 (v : V8) : (Prop) := false = false → decide ((↑v.L : Int) > (60 : Int)) = false → ∀ (i : Nat), scpL (0:Nat) ((fun (j : Nat) => [SV.int IntKind.u64 (v.F j), SV.int IntKind.u64 (v.G j)]) i) = true
noncomputable def f8_1 (v : V8) : (Prop) := false = false → decide ((↑v.L : Int) > (60 : Int)) = false → ∀ (i : Nat), i < v.M → (fun (j : Nat) => [SV.int IntKind.u64 (v.F j), SV.int IntKind.u64 (v.G j)]) i = elC (fun (j : Nat) => [SV.int IntKind.u64 (v.F j), SV.int IntKind.u64 (v.G j)]) (0:Nat) [Ck.int IntKind.u64, Ck.int IntKind.u64] i
noncomputable def f8_2 (v : V8) : (Prop) := false = false → decide ((↑v.L : Int) > (60 : Int)) = false → pre30 (V30.mk v.L v.gf v.gt_ v.M v.ob v.F v.G)
noncomputable def f8_3 (v : V8) : (Prop) := false = false → decide ((↑v.L : Int) > (60 : Int)) = false → (∀ (i : Nat), scpL (0:Nat) ((fun (j : Nat) => [SV.int IntKind.u64 (v.F j), SV.int IntKind.u64 (v.G j)]) i) = true) ∧ ∀ (i : Nat), scpL (0:Nat) ((fun (j : Nat) => [SV.int IntKind.u64 (So.gt (CT (sp v.F v.G) v.L (v.gf, v.gt_)) j).fst, SV.int IntKind.u64 (So.gt (CT (sp v.F v.G) v.L (v.gf, v.gt_)) j).snd]) i) = true
noncomputable def f8_4 (v : V8) : (Prop) := false = false → decide ((↑v.L : Int) > (60 : Int)) = false → (∀ (i : Nat), i < v.M → (fun (j : Nat) => [SV.int IntKind.u64 (v.F j), SV.int IntKind.u64 (v.G j)]) i = elC (fun (j : Nat) => [SV.int IntKind.u64 (v.F j), SV.int IntKind.u64 (v.G j)]) (0:Nat) [Ck.int IntKind.u64, Ck.int IntKind.u64] i) ∧ ∀ (i : Nat), i < (CT (sp v.F v.G) v.L (v.gf, v.gt_)).length → (fun (j : Nat) => [SV.int IntKind.u64 (So.gt (CT (sp v.F v.G) v.L (v.gf, v.gt_)) j).fst, SV.int IntKind.u64 (So.gt (CT (sp v.F v.G) v.L (v.gf, v.gt_)) j).snd]) i = elC (fun (j : Nat) => [SV.int IntKind.u64 (So.gt (CT (sp v.F v.G) v.L (v.gf, v.gt_)) j).fst, SV.int IntKind.u64 (So.gt (CT (sp v.F v.G) v.L (v.gf, v.gt_)) j).snd]) (0:Nat) [Ck.int IntKind.u64, Ck.int IntKind.u64] i
noncomputable def f8_5 (v : V8) : (Prop) := false = false → decide ((↑v.L : Int) > (60 : Int)) = false → LT (r8_0 (P8_0.mk v.L v.at_ false (CT (sp v.F v.G) v.L (v.gf, v.gt_)).length (CT (sp v.F v.G) v.L (v.gf, v.gt_)).length (↑(CT (sp v.F v.G) v.L (v.gf, v.gt_)).length : Int) v.M v.ob v.F v.G v.gf v.gt_ (CT (sp v.F v.G) v.L (v.gf, v.gt_)).length (fun (j : Nat) => (So.gt (CT (sp v.F v.G) v.L (v.gf, v.gt_)) j).fst) fun (j : Nat) => (So.gt (CT (sp v.F v.G) v.L (v.gf, v.gt_)) j).snd)) (S8_0.mk (0 : Int))
noncomputable def f8z0 (v : V8) : S8_0 := lastS (r8_0 (P8_0.mk v.L v.at_ false (CT (sp v.F v.G) v.L (v.gf, v.gt_)).length (CT (sp v.F v.G) v.L (v.gf, v.gt_)).length (↑(CT (sp v.F v.G) v.L (v.gf, v.gt_)).length : Int) v.M v.ob v.F v.G v.gf v.gt_ (CT (sp v.F v.G) v.L (v.gf, v.gt_)).length (fun (j : Nat) => (So.gt (CT (sp v.F v.G) v.L (v.gf, v.gt_)) j).fst) fun (j : Nat) => (So.gt (CT (sp v.F v.G) v.L (v.gf, v.gt_)) j).snd)) (S8_0.mk (0 : Int))
noncomputable def f8_6 (v : V8) : (Prop) := false = false → decide ((↑v.L : Int) > (60 : Int)) = false → cnd (e8_0_0 (P8_0.mk v.L v.at_ false (CT (sp v.F v.G) v.L (v.gf, v.gt_)).length (CT (sp v.F v.G) v.L (v.gf, v.gt_)).length (↑(CT (sp v.F v.G) v.L (v.gf, v.gt_)).length : Int) v.M v.ob v.F v.G v.gf v.gt_ (CT (sp v.F v.G) v.L (v.gf, v.gt_)).length (fun (j : Nat) => (So.gt (CT (sp v.F v.G) v.L (v.gf, v.gt_)) j).fst) fun (j : Nat) => (So.gt (CT (sp v.F v.G) v.L (v.gf, v.gt_)) j).snd) (f8z0 v)) false true = false → ∀ (i : Nat), scpL (0:Nat) ((fun (j : Nat) => [SV.int IntKind.u64 (So.gt (CT (sp v.F v.G) v.L (v.gf, v.gt_)) j).fst, SV.int IntKind.u64 (So.gt (CT (sp v.F v.G) v.L (v.gf, v.gt_)) j).snd]) i) = true
noncomputable def f8_7 (v : V8) : (Prop) := false = false → decide ((↑v.L : Int) > (60 : Int)) = false → cnd (e8_0_0 (P8_0.mk v.L v.at_ false (CT (sp v.F v.G) v.L (v.gf, v.gt_)).length (CT (sp v.F v.G) v.L (v.gf, v.gt_)).length (↑(CT (sp v.F v.G) v.L (v.gf, v.gt_)).length : Int) v.M v.ob v.F v.G v.gf v.gt_ (CT (sp v.F v.G) v.L (v.gf, v.gt_)).length (fun (j : Nat) => (So.gt (CT (sp v.F v.G) v.L (v.gf, v.gt_)) j).fst) fun (j : Nat) => (So.gt (CT (sp v.F v.G) v.L (v.gf, v.gt_)) j).snd) (f8z0 v)) false true = false → ∀ (i : Nat), i < (CT (sp v.F v.G) v.L (v.gf, v.gt_)).length → (fun (j : Nat) => [SV.int IntKind.u64 (So.gt (CT (sp v.F v.G) v.L (v.gf, v.gt_)) j).fst, SV.int IntKind.u64 (So.gt (CT (sp v.F v.G) v.L (v.gf, v.gt_)) j).snd]) i = elC (fun (j : Nat) => [SV.int IntKind.u64 (So.gt (CT (sp v.F v.G) v.L (v.gf, v.gt_)) j).fst, SV.int IntKind.u64 (So.gt (CT (sp v.F v.G) v.L (v.gf, v.gt_)) j).snd]) (0:Nat) [Ck.int IntKind.u64, Ck.int IntKind.u64] i
noncomputable def f8_8 (v : V8) : (Prop) := false = false → decide ((↑v.L : Int) > (60 : Int)) = false → cnd (e8_0_0 (P8_0.mk v.L v.at_ false (CT (sp v.F v.G) v.L (v.gf, v.gt_)).length (CT (sp v.F v.G) v.L (v.gf, v.gt_)).length (↑(CT (sp v.F v.G) v.L (v.gf, v.gt_)).length : Int) v.M v.ob v.F v.G v.gf v.gt_ (CT (sp v.F v.G) v.L (v.gf, v.gt_)).length (fun (j : Nat) => (So.gt (CT (sp v.F v.G) v.L (v.gf, v.gt_)) j).fst) fun (j : Nat) => (So.gt (CT (sp v.F v.G) v.L (v.gf, v.gt_)) j).snd) (f8z0 v)) false true = false → pre20 (inj20 (V20w.mk (CT (sp v.F v.G) v.L (v.gf, v.gt_)).length (CT (sp v.F v.G) v.L (v.gf, v.gt_)).length (fun (j : Nat) => (So.gt (CT (sp v.F v.G) v.L (v.gf, v.gt_)) j).fst) fun (j : Nat) => (So.gt (CT (sp v.F v.G) v.L (v.gf, v.gt_)) j).snd) (Go.Obj.cells #[] (0 : Go.TypeId)))
noncomputable def f8_9 (v : V8) : (Prop) := false = false → decide ((↑v.L : Int) > (60 : Int)) = false → cnd (e8_0_0 (P8_0.mk v.L v.at_ false (CT (sp v.F v.G) v.L (v.gf, v.gt_)).length (CT (sp v.F v.G) v.L (v.gf, v.gt_)).length (↑(CT (sp v.F v.G) v.L (v.gf, v.gt_)).length : Int) v.M v.ob v.F v.G v.gf v.gt_ (CT (sp v.F v.G) v.L (v.gf, v.gt_)).length (fun (j : Nat) => (So.gt (CT (sp v.F v.G) v.L (v.gf, v.gt_)) j).fst) fun (j : Nat) => (So.gt (CT (sp v.F v.G) v.L (v.gf, v.gt_)) j).snd) (f8z0 v)) false true = false → cnd (decide (So.Ap (So.seg (sp (inj20 (V20w.mk (CT (sp v.F v.G) v.L (v.gf, v.gt_)).length (CT (sp v.F v.G) v.L (v.gf, v.gt_)).length (fun (j : Nat) => (So.gt (CT (sp v.F v.G) v.L (v.gf, v.gt_)) j).fst) fun (j : Nat) => (So.gt (CT (sp v.F v.G) v.L (v.gf, v.gt_)) j).snd) (Go.Obj.cells #[] (0 : Go.TypeId))).F (inj20 (V20w.mk (CT (sp v.F v.G) v.L (v.gf, v.gt_)).length (CT (sp v.F v.G) v.L (v.gf, v.gt_)).length (fun (j : Nat) => (So.gt (CT (sp v.F v.G) v.L (v.gf, v.gt_)) j).fst) fun (j : Nat) => (So.gt (CT (sp v.F v.G) v.L (v.gf, v.gt_)) j).snd) (Go.Obj.cells #[] (0 : Go.TypeId))).G) (0:Nat) (inj20 (V20w.mk (CT (sp v.F v.G) v.L (v.gf, v.gt_)).length (CT (sp v.F v.G) v.L (v.gf, v.gt_)).length (fun (j : Nat) => (So.gt (CT (sp v.F v.G) v.L (v.gf, v.gt_)) j).fst) fun (j : Nat) => (So.gt (CT (sp v.F v.G) v.L (v.gf, v.gt_)) j).snd) (Go.Obj.cells #[] (0 : Go.TypeId))).L))) true false = true → (∀ (i : Nat), scpL (0:Nat) ((fun (j : Nat) => [SV.int IntKind.u64 (So.gt (CT (sp v.F v.G) v.L (v.gf, v.gt_)) j).fst, SV.int IntKind.u64 (So.gt (CT (sp v.F v.G) v.L (v.gf, v.gt_)) j).snd]) i) = true) ∧ (∀ (i : Nat), i < (CT (sp v.F v.G) v.L (v.gf, v.gt_)).length → (fun (j : Nat) => [SV.int IntKind.u64 (So.gt (CT (sp v.F v.G) v.L (v.gf, v.gt_)) j).fst, SV.int IntKind.u64 (So.gt (CT (sp v.F v.G) v.L (v.gf, v.gt_)) j).snd]) i = elC (fun (j : Nat) => [SV.int IntKind.u64 (So.gt (CT (sp v.F v.G) v.L (v.gf, v.gt_)) j).fst, SV.int IntKind.u64 (So.gt (CT (sp v.F v.G) v.L (v.gf, v.gt_)) j).snd]) (0:Nat) [Ck.int IntKind.u64, Ck.int IntKind.u64] i) ∧ pre25 (inj25 (V25w.mk (CT (sp v.F v.G) v.L (v.gf, v.gt_)).length v.at_ (CT (sp v.F v.G) v.L (v.gf, v.gt_)).length (fun (j : Nat) => (So.gt (CT (sp v.F v.G) v.L (v.gf, v.gt_)) j).fst) fun (j : Nat) => (So.gt (CT (sp v.F v.G) v.L (v.gf, v.gt_)) j).snd) (Go.Obj.cells #[] (0 : Go.TypeId))) ∧ ∀ (i : Nat), scpL (0:Nat) ((fun (j : Nat) => [SV.int IntKind.u64 (So.gt (CT (sp v.F v.G) v.L (v.gf, v.gt_)) j).fst, SV.int IntKind.u64 (So.gt (CT (sp v.F v.G) v.L (v.gf, v.gt_)) j).snd]) i) = true
noncomputable def f8_10 (v : V8) : (Prop) := false = false → decide ((↑v.L : Int) > (60 : Int)) = false → cnd (e8_0_0 (P8_0.mk v.L v.at_ false (CT (sp v.F v.G) v.L (v.gf, v.gt_)).length (CT (sp v.F v.G) v.L (v.gf, v.gt_)).length (↑(CT (sp v.F v.G) v.L (v.gf, v.gt_)).length : Int) v.M v.ob v.F v.G v.gf v.gt_ (CT (sp v.F v.G) v.L (v.gf, v.gt_)).length (fun (j : Nat) => (So.gt (CT (sp v.F v.G) v.L (v.gf, v.gt_)) j).fst) fun (j : Nat) => (So.gt (CT (sp v.F v.G) v.L (v.gf, v.gt_)) j).snd) (f8z0 v)) false true = false → cnd (decide (So.Ap (So.seg (sp (inj20 (V20w.mk (CT (sp v.F v.G) v.L (v.gf, v.gt_)).length (CT (sp v.F v.G) v.L (v.gf, v.gt_)).length (fun (j : Nat) => (So.gt (CT (sp v.F v.G) v.L (v.gf, v.gt_)) j).fst) fun (j : Nat) => (So.gt (CT (sp v.F v.G) v.L (v.gf, v.gt_)) j).snd) (Go.Obj.cells #[] (0 : Go.TypeId))).F (inj20 (V20w.mk (CT (sp v.F v.G) v.L (v.gf, v.gt_)).length (CT (sp v.F v.G) v.L (v.gf, v.gt_)).length (fun (j : Nat) => (So.gt (CT (sp v.F v.G) v.L (v.gf, v.gt_)) j).fst) fun (j : Nat) => (So.gt (CT (sp v.F v.G) v.L (v.gf, v.gt_)) j).snd) (Go.Obj.cells #[] (0 : Go.TypeId))).G) (0:Nat) (inj20 (V20w.mk (CT (sp v.F v.G) v.L (v.gf, v.gt_)).length (CT (sp v.F v.G) v.L (v.gf, v.gt_)).length (fun (j : Nat) => (So.gt (CT (sp v.F v.G) v.L (v.gf, v.gt_)) j).fst) fun (j : Nat) => (So.gt (CT (sp v.F v.G) v.L (v.gf, v.gt_)) j).snd) (Go.Obj.cells #[] (0 : Go.TypeId))).L))) true false = true → (∀ (i : Nat), scpL (0:Nat) ((fun (j : Nat) => [SV.int IntKind.u64 (v.F j), SV.int IntKind.u64 (v.G j)]) i) = true) ∧ (∀ (i : Nat), i < v.M → (fun (j : Nat) => [SV.int IntKind.u64 (v.F j), SV.int IntKind.u64 (v.G j)]) i = elC (fun (j : Nat) => [SV.int IntKind.u64 (v.F j), SV.int IntKind.u64 (v.G j)]) (0:Nat) [Ck.int IntKind.u64, Ck.int IntKind.u64] i) ∧ pre25 (V25.mk v.L v.at_ v.M v.ob v.F v.G) ∧ ∀ (i : Nat), scpL (0:Nat) ((fun (j : Nat) => [SV.int IntKind.u64 (v.F j), SV.int IntKind.u64 (v.G j)]) i) = true
noncomputable def f8_11 (v : V8) : (Bool) := cnd (decide ((↑v.L : Int) > (60 : Int))) true (cnd (cnd (e8_0_0 (P8_0.mk v.L v.at_ false (CT (sp v.F v.G) v.L (v.gf, v.gt_)).length (CT (sp v.F v.G) v.L (v.gf, v.gt_)).length (↑(CT (sp v.F v.G) v.L (v.gf, v.gt_)).length : Int) v.M v.ob v.F v.G v.gf v.gt_ (CT (sp v.F v.G) v.L (v.gf, v.gt_)).length (fun (j : Nat) => (So.gt (CT (sp v.F v.G) v.L (v.gf, v.gt_)) j).fst) fun (j : Nat) => (So.gt (CT (sp v.F v.G) v.L (v.gf, v.gt_)) j).snd) (f8z0 v)) false true) false (cnd (decide (So.Ap (So.seg (sp (inj20 (V20w.mk (CT (sp v.F v.G) v.L (v.gf, v.gt_)).length (CT (sp v.F v.G) v.L (v.gf, v.gt_)).length (fun (j : Nat) => (So.gt (CT (sp v.F v.G) v.L (v.gf, v.gt_)) j).fst) fun (j : Nat) => (So.gt (CT (sp v.F v.G) v.L (v.gf, v.gt_)) j).snd) (Go.Obj.cells #[] (0 : Go.TypeId))).F (inj20 (V20w.mk (CT (sp v.F v.G) v.L (v.gf, v.gt_)).length (CT (sp v.F v.G) v.L (v.gf, v.gt_)).length (fun (j : Nat) => (So.gt (CT (sp v.F v.G) v.L (v.gf, v.gt_)) j).fst) fun (j : Nat) => (So.gt (CT (sp v.F v.G) v.L (v.gf, v.gt_)) j).snd) (Go.Obj.cells #[] (0 : Go.TypeId))).G) (0:Nat) (inj20 (V20w.mk (CT (sp v.F v.G) v.L (v.gf, v.gt_)).length (CT (sp v.F v.G) v.L (v.gf, v.gt_)).length (fun (j : Nat) => (So.gt (CT (sp v.F v.G) v.L (v.gf, v.gt_)) j).fst) fun (j : Nat) => (So.gt (CT (sp v.F v.G) v.L (v.gf, v.gt_)) j).snd) (Go.Obj.cells #[] (0 : Go.TypeId))).L))) (decide (So.Hs (So.seg (sp (inj25 (V25w.mk (CT (sp v.F v.G) v.L (v.gf, v.gt_)).length v.at_ (CT (sp v.F v.G) v.L (v.gf, v.gt_)).length (fun (j : Nat) => (So.gt (CT (sp v.F v.G) v.L (v.gf, v.gt_)) j).fst) fun (j : Nat) => (So.gt (CT (sp v.F v.G) v.L (v.gf, v.gt_)) j).snd) (Go.Obj.cells #[] (0 : Go.TypeId))).F (inj25 (V25w.mk (CT (sp v.F v.G) v.L (v.gf, v.gt_)).length v.at_ (CT (sp v.F v.G) v.L (v.gf, v.gt_)).length (fun (j : Nat) => (So.gt (CT (sp v.F v.G) v.L (v.gf, v.gt_)) j).fst) fun (j : Nat) => (So.gt (CT (sp v.F v.G) v.L (v.gf, v.gt_)) j).snd) (Go.Obj.cells #[] (0 : Go.TypeId))).G) (0:Nat) (inj25 (V25w.mk (CT (sp v.F v.G) v.L (v.gf, v.gt_)).length v.at_ (CT (sp v.F v.G) v.L (v.gf, v.gt_)).length (fun (j : Nat) => (So.gt (CT (sp v.F v.G) v.L (v.gf, v.gt_)) j).fst) fun (j : Nat) => (So.gt (CT (sp v.F v.G) v.L (v.gf, v.gt_)) j).snd) (Go.Obj.cells #[] (0 : Go.TypeId))).L) (inj25 (V25w.mk (CT (sp v.F v.G) v.L (v.gf, v.gt_)).length v.at_ (CT (sp v.F v.G) v.L (v.gf, v.gt_)).length (fun (j : Nat) => (So.gt (CT (sp v.F v.G) v.L (v.gf, v.gt_)) j).fst) fun (j : Nat) => (So.gt (CT (sp v.F v.G) v.L (v.gf, v.gt_)) j).snd) (Go.Obj.cells #[] (0 : Go.TypeId))).at_) == cnd (decide (So.Hs (So.seg (sp v.F v.G) (0:Nat) v.L) v.at_)) (!f17_0 v.gf v.gt_ v.at_) false) false))
theorem n_f8_0 (v : V8) : f8_0 v := by
  unfold f8_0
  first
    | (intros; rfl)
    | (intro i; rfl)
    | (intro i _; rfl)
    | (intro _ i; rfl)
    | (intro _ i _; rfl)
    | (refine ⟨?_, ?_⟩ <;> intro i <;> rfl)
    | (refine ⟨?_, ?_, ?_⟩ <;> intro i <;> rfl)
    | (refine ⟨?_, ?_⟩ <;> intro i _ <;> rfl)
    | (repeat' apply And.intro) <;> first | (intro i; rfl) | (intro i _; rfl) | (intro i h; exact absurd h (Nat.not_lt_zero i)) | (intro i; exact scpL_rowSet (by rfl) (by rfl)) | (intro i; exact scpL_rowEl (by kernel_rfl) _)
    | (intros; (repeat' apply And.intro) <;> intros <;> first | rfl | (exact absurd (by assumption) (Nat.not_lt_zero _)))
    | omega
    | decide
theorem n_f8_1 (v : V8) : f8_1 v := by
  unfold f8_1
  first
    | (intros; rfl)
    | (intro i; rfl)
    | (intro i _; rfl)
    | (intro _ i; rfl)
    | (intro _ i _; rfl)
    | (refine ⟨?_, ?_⟩ <;> intro i <;> rfl)
    | (refine ⟨?_, ?_, ?_⟩ <;> intro i <;> rfl)
    | (refine ⟨?_, ?_⟩ <;> intro i _ <;> rfl)
    | (repeat' apply And.intro) <;> first | (intro i; rfl) | (intro i _; rfl) | (intro i h; exact absurd h (Nat.not_lt_zero i)) | (intro i; exact scpL_rowSet (by rfl) (by rfl)) | (intro i; exact scpL_rowEl (by kernel_rfl) _)
    | (intros; (repeat' apply And.intro) <;> intros <;> first | rfl | (exact absurd (by assumption) (Nat.not_lt_zero _)))
    | omega
    | decide
theorem n_f8_3 (v : V8) : f8_3 v := by
  unfold f8_3
  first
    | (intros; rfl)
    | (intro i; rfl)
    | (intro i _; rfl)
    | (intro _ i; rfl)
    | (intro _ i _; rfl)
    | (refine ⟨?_, ?_⟩ <;> intro i <;> rfl)
    | (refine ⟨?_, ?_, ?_⟩ <;> intro i <;> rfl)
    | (refine ⟨?_, ?_⟩ <;> intro i _ <;> rfl)
    | (repeat' apply And.intro) <;> first | (intro i; rfl) | (intro i _; rfl) | (intro i h; exact absurd h (Nat.not_lt_zero i)) | (intro i; exact scpL_rowSet (by rfl) (by rfl)) | (intro i; exact scpL_rowEl (by kernel_rfl) _)
    | (intros; (repeat' apply And.intro) <;> intros <;> first | rfl | (exact absurd (by assumption) (Nat.not_lt_zero _)))
    | omega
    | decide
theorem n_f8_4 (v : V8) : f8_4 v := by
  unfold f8_4
  first
    | (intros; rfl)
    | (intro i; rfl)
    | (intro i _; rfl)
    | (intro _ i; rfl)
    | (intro _ i _; rfl)
    | (refine ⟨?_, ?_⟩ <;> intro i <;> rfl)
    | (refine ⟨?_, ?_, ?_⟩ <;> intro i <;> rfl)
    | (refine ⟨?_, ?_⟩ <;> intro i _ <;> rfl)
    | (repeat' apply And.intro) <;> first | (intro i; rfl) | (intro i _; rfl) | (intro i h; exact absurd h (Nat.not_lt_zero i)) | (intro i; exact scpL_rowSet (by rfl) (by rfl)) | (intro i; exact scpL_rowEl (by kernel_rfl) _)
    | (intros; (repeat' apply And.intro) <;> intros <;> first | rfl | (exact absurd (by assumption) (Nat.not_lt_zero _)))
    | omega
    | decide
theorem n_f8_6 (v : V8) : f8_6 v := by
  unfold f8_6
  first
    | (intros; rfl)
    | (intro i; rfl)
    | (intro i _; rfl)
    | (intro _ i; rfl)
    | (intro _ i _; rfl)
    | (refine ⟨?_, ?_⟩ <;> intro i <;> rfl)
    | (refine ⟨?_, ?_, ?_⟩ <;> intro i <;> rfl)
    | (refine ⟨?_, ?_⟩ <;> intro i _ <;> rfl)
    | (repeat' apply And.intro) <;> first | (intro i; rfl) | (intro i _; rfl) | (intro i h; exact absurd h (Nat.not_lt_zero i)) | (intro i; exact scpL_rowSet (by rfl) (by rfl)) | (intro i; exact scpL_rowEl (by kernel_rfl) _)
    | (intros; (repeat' apply And.intro) <;> intros <;> first | rfl | (exact absurd (by assumption) (Nat.not_lt_zero _)))
    | omega
    | decide
theorem n_f8_7 (v : V8) : f8_7 v := by
  unfold f8_7
  first
    | (intros; rfl)
    | (intro i; rfl)
    | (intro i _; rfl)
    | (intro _ i; rfl)
    | (intro _ i _; rfl)
    | (refine ⟨?_, ?_⟩ <;> intro i <;> rfl)
    | (refine ⟨?_, ?_, ?_⟩ <;> intro i <;> rfl)
    | (refine ⟨?_, ?_⟩ <;> intro i _ <;> rfl)
    | (repeat' apply And.intro) <;> first | (intro i; rfl) | (intro i _; rfl) | (intro i h; exact absurd h (Nat.not_lt_zero i)) | (intro i; exact scpL_rowSet (by rfl) (by rfl)) | (intro i; exact scpL_rowEl (by kernel_rfl) _)
    | (intros; (repeat' apply And.intro) <;> intros <;> first | rfl | (exact absurd (by assumption) (Nat.not_lt_zero _)))
    | omega
    | decide
noncomputable def ff8 (v : V8) : Tr (Fin th.R) := (Tr.need (f8_0 v) (Tr.need (f8_1 v) (Tr.need (f8_2 v) (Tr.need (f8_3 v) (Tr.need (f8_4 v) (Tr.need (f8_5 v) (Tr.need (f8_6 v) (Tr.need (f8_7 v) (Tr.need (f8_8 v) (Tr.need (f8_6 v) (Tr.need (f8_9 v) (Tr.need (f8_10 v) (Tr.leaf (Prod.mk (SV.bool (f8_11 v)) (Prod.mk (List.cons (HO.ro ((27 : Nat)) ((2 : Nat)) (v.M) (fun j => (List.cons (SV.int (IntKind.u64) (v.F j)) (List.cons (SV.int (IntKind.u64) (v.G j)) []))) (v.ob)) []) [])))))))))))))))
noncomputable def f8 (v : V8) : Tr (Fin th.R) := (Tr.need (f8_2 v) (Tr.need (f8_5 v) (Tr.need (f8_8 v) (Tr.need (f8_9 v) (Tr.need (f8_10 v) (Tr.leaf (Prod.mk (SV.bool (f8_11 v)) (Prod.mk (List.cons (HO.ro ((27 : Nat)) ((2 : Nat)) (v.M) (fun j => (List.cons (SV.int (IntKind.u64) (v.F j)) (List.cons (SV.int (IntKind.u64) (v.G j)) []))) (v.ob)) []) ([])))))))))
noncomputable def C8 : CF th.R := fnC d8 ofV8 (f8 )
theorem q8 (v : V8) : (evFn th Try.prog (auto th Try.prog nice30n [] 20) (autoH [(7, L8_0)] [] [] [] : Hints th) 8) (A8 v) (H8 v) = some (ff8 v) := by kernel_rfl
theorem qg8 (v : V8) : ((ff8 v).map (setD [])).get = (f8 v).get := by kernel_rfl
theorem qd8 (v : V8) : allD 1 [] (ff8 v) = true := by kernel_rfl
theorem s8 : Sound Try.prog th 8 (C8 ) := fnC_sound (evFn_sound' (T := th) (P := Try.prog) (tbl := (auto th Try.prog nice30n [] 20)) (auto_sound (nice := nice30n) (us := []) nok30n 20) (H := (autoH [(7, L8_0)] [] [] [] : Hints th)) (k := 8) (fnLoops ok8)) d8 A8 H8 toV8 (by kernel_rfl) (fun v => by kernel_rfl)
  (fun l v h => by
    unfold ofV8 at h
    split at h
    · cases h; rfl
    · cases h)
  [] (fun v => ⟨ff8 v, q8 v, fun h => by
    unfold f8 at h; unfold ff8
    simp only [Tr.ok, n_f8_0, n_f8_1, n_f8_3, n_f8_4, n_f8_6, n_f8_7, true_and, and_true, forall_const, implies_true] at h ⊢
    try exact h, qg8 v, qd8 v⟩)
theorem qdd8 (v : V8) : (f8 v).get.2.2 = [] := by
  rw [← qg8, Tr.map_get]; rfl
end Go.Sx.S

namespace Go.Sx.S
open Go Go.Sx Go.Proofs Go.RowKit
set_option maxRecDepth 100000
open So
def pre8 (v : V8) : Prop := v.L ≤ v.M ∧ ∀ i, i < v.L → 0 ≤ v.F i
theorem l8_0 {L M m : Nat} {at_ : Int} {F G : Nat → Int} {ob : Obj} {U : Nat → Sp} {g : Sp} (hm : m ≤ 30000000000) (hU : ∀ i, i < m → (U i).1 < (U i).2 ∧ ¬ mts (U i) g) :
    LT (r8_0 (P8_0.mk L at_ false m m (m : Int) M ob F G g.1 g.2 m (fun j => (U j).1) fun j => (U j).2)) (S8_0.mk 0) ∧
      (fun s : S8_0 => (m : Int) ≤ s.x20) (lastS (r8_0 (P8_0.mk L at_ false m m (m : Int) M ob F G g.1 g.2 m (fun j => (U j).1) fun j => (U j).2)) (S8_0.mk 0)) := by
  refine LT.post (fun s : S8_0 => ∃ i : Nat, s.x20 = i ∧ i ≤ m) (fun s : S8_0 => (m : Int) ≤ s.x20) (fun s : S8_0 => (m - s.x20).toNat) ?_ ?_
  rotate_left
  · exact ⟨0, rfl, Nat.zero_le _⟩
  rintro ⟨x⟩ ⟨i, g1, g2⟩
  simp only at g1
  subst g1
  have w2 : IntKind.i64.wrap ((i : Int) + 1) = ((i + 1 : Nat) : Int) := by rw [wi (by omega) (by omega)]; omega
  have dec := meets_dec (U i) g
  have d1 : f11_0 (U i).1 (U i).2 = decide ((U i).1 < (U i).2) := rfl
  simp only [r8_0, e8_0_0, e8_0_2, e8_0_3, e8_0_4, e8_0_6, Tr.ok, Tr.get, w2, Nat.zero_add, Int.toNat_natCast, dec, d1]
  by_cases hc : i < m
  · have hd : cnd (decide ((i : Int) < (m : Int))) false true = false := by rw [decide_eq_true (by omega)]; rfl
    rw [hd, decide_eq_false (hU i hc).2, decide_eq_true (hU i hc).1]
    exact ⟨⟨(fun e => by cases e), fun _ => ⟨⟨by omega, by omega⟩, by omega, (fun e => by cases e), fun _ => trivial⟩⟩, .inr ⟨_, rfl, ⟨i + 1, rfl, by omega⟩, by simp only [w2]; omega⟩⟩
  · have hd : cnd (decide ((i : Int) < (m : Int))) false true = true := by rw [decide_eq_false (by omega)]; rfl
    rw [hd]
    exact ⟨⟨fun _ => trivial, (fun e => by cases e)⟩, .inl ⟨⟨_, _, _, rfl⟩, by omega⟩⟩
theorem cuts (a h h' k : Bool) (x m : Int) (h1 : a = true) (h2 : h = cnd h' (!k) false) (h4 : m ≤ x) :
    cnd (cnd (cnd (decide (x < m)) false true) false true) false (cnd a (h == cnd h' (!k) false) false) = true := by
  subst h1 h2
  rw [decide_eq_false (by omega)]
  cases h' <;> cases k <;> rfl
theorem n8 (v : V8) (h : pre8 v) : (f8 v).ok ∧ (f8 v).get.1 = .bool true ∧ HOws (f8 v).get.2.1 [HO.ro 27 2 v.M (fun j => [SV.int .u64 (v.F j), SV.int .u64 (v.G j)]) v.ob] := by
  cases v with
  | mk L gf gt_ a M ob F G =>
  obtain ⟨h, hw⟩ : L ≤ M ∧ ∀ i, i < L → 0 ≤ F i := h
  by_cases hL : L ≤ 60
  · have hd : decide ((L : Int) > 60) = false := decide_eq_false (by omega)
    have hb : L ≤ 30000000000 := by omega
    have hlen := UN_len (sp F G) L
    have hl2 : (CT (sp F G) L (gf, gt_)).length ≤ 2 * (UN (sp F G) L).length := ctl_len _ _
    have hm : (CT (sp F G) L (gf, gt_)).length ≤ 30000000000 := by omega
    have ui : UI (RS (sp F G) L) (UN (sp F G) L) := by
      have h := un_seg (n := (RS (sp F G) L).length) (R := RSr (sp F G) L) (rs_sorted rfl rfl) (rs_right rfl rfl) (rs_mem (p := fun x => 0 ≤ x.1) hw) _ (Nat.le_refl _)
      have e : seg (RSr (sp F G) L) 0 (RS (sp F G) L).length = RS (sp F G) L := rs_seg rfl rfl
      rw [e] at h
      exact h
    have hcov : ∀ a, Hs (UN (sp F G) L) a ↔ Hs (seg (sp F G) 0 L) a := fun a => (ui.cov a).trans Hs_flt
    have hright : ∀ x, x ∈ UN (sp F G) L → x.1 < x.2 := ui.right
    have hrise : (UN (sp F G) L).Pairwise fun x y => x.2 < y.1 := ui.rise
    have hU : ∀ i, i < (CT (sp F G) L (gf, gt_)).length → (gt (CT (sp F G) L (gf, gt_)) i).1 < (gt (CT (sp F G) L (gf, gt_)) i).2 ∧ ¬ mts (gt (CT (sp F G) L (gf, gt_)) i) (gf, gt_) := fun i hi => ctl_each hright _ (gt_mem hi)
    obtain ⟨k1, k2⟩ := l8_0 (L := L) (M := M) (at_ := a) (F := F) (G := G) (ob := ob) hm hU
    have ea : decide (Ap (seg (gt (CT (sp F G) L (gf, gt_))) 0 (CT (sp F G) L (gf, gt_)).length)) = true := by
      rw [gt_seg]; exact decide_eq_true (ctl_ap hright hrise)
    have eh : decide (Hs (seg (gt (CT (sp F G) L (gf, gt_))) 0 (CT (sp F G) L (gf, gt_)).length) a) = cnd (decide (Hs (seg (sp F G) 0 L) a)) (!f17_0 gf gt_ a) false := by
      have hk : f17_0 gf gt_ a = decide (gf ≤ a ∧ a < gt_) := has1_dec (gf, gt_) a
      rw [hk, gt_seg, Bool.eq_iff_iff, decide_eq_true_iff, cnd_and, Bool.and_eq_true, decide_eq_true_iff, ← hcov a]
      rw [show CT (sp F G) L (gf, gt_) = ctl (gf, gt_) (UN (sp F G) L) from rfl, ctl_has hright, Bool.not_eq_true', decide_eq_false_iff_not]
    refine ⟨⟨fun _ _ => ⟨h, by show L ≤ 10000000000; omega⟩, fun _ _ => k1, fun _ _ _ => ⟨Nat.le_refl _, hm⟩, fun _ _ _ _ => ⟨fun _ => rfl, fun _ _ => rfl, ⟨Nat.le_refl _, hm⟩, fun _ => rfl⟩, fun _ _ _ _ => ⟨fun _ => rfl, fun _ _ => rfl, ⟨h, hb⟩, fun _ => rfl⟩, trivial⟩, ?_, .refl _⟩
    refine congrArg SV.bool ?_
    unfold f8_11
    rw [hd]
    exact cuts _ _ _ _ _ _ ea eh k2
  · have hd : decide ((L : Int) > 60) = true := decide_eq_true (by omega)
    have no : ∀ {p : Prop}, decide ((L : Int) > 60) = false → p := fun e => by rw [hd] at e; cases e
    refine ⟨⟨fun _ e => no e, fun _ e => no e, fun _ e => no e, fun _ e => no e, fun _ e => no e, trivial⟩, ?_, .refl _⟩
    refine congrArg SV.bool ?_
    unfold f8_11
    rw [hd]
    rfl
noncomputable def f8n (v : V8) : Tr (Fin th.R) := .need (pre8 v) (.leaf (.bool true, [.ro 27 2 v.M (fun j => [.int .u64 (v.F j), .int .u64 (v.G j)]) v.ob], []))
theorem s8n : Sound Try.prog th 8 (fnC d8 ofV8 f8n) := fnC_refine s8 fun v h => by
  obtain ⟨hp, _⟩ := h
  obtain ⟨a, b, c⟩ := n8 v hp
  exact ⟨a, b.symm, (qdd8 v).symm, c, by show 1 ≤ 1; decide⟩
theorem claw8 (v : V8) : fnC d8 ofV8 f8n (A8 v) (H8 v) = some (.need (∀ i, i < v.M → (fun j => [.int .u64 (v.F j), .int .u64 (v.G j)] : Nat → List SV) i = elC (fun j => [.int .u64 (v.F j), .int .u64 (v.G j)] : Nat → List SV) 0 [.int .u64, .int .u64] i) ((f8n v).map (fixF (H8 v)))) := by kernel_rfl
noncomputable def nice8n : List (Nat × CF th.R) := (8, lift (fnC d8 ofV8 f8n)) :: nice30n
theorem nok8n : NiceOk Try.prog th nice8n := ⟨lift_sound s8n, nok30n⟩
end Go.Sx.S

