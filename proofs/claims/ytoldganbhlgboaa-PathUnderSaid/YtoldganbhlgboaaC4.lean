/- Contracts of the functions of this seat, each by the executor and the kernel; part 4. Their conditions stand in each. -/
import Derived.Test.YtoldganbhlgboaaC3
set_option linter.unusedVariables false
set_option linter.unusedSimpArgs false
namespace Go.Sx.M
open Go Go.Sx Go.Proofs Go.RowKit
set_option maxRecDepth 100000
structure V37o where
  k : Int
  a : Int
  b : Int
  r : Int
  g : Int
  s : Int
  m : Int
  w : Int
  l : Int
  f : Int
  c : Int
  M : th.R
def A37o (v : V37o) : List SV := [.ptr 0 0, .agg [.int .i64 v.k, .int .u64 v.a, .int .i64 v.b, .int .i64 v.r, .int .i64 v.g, .int .i64 v.s, .int .u64 v.m], .int .u64 v.w, .int .i64 v.l]
def H37o (v : V37o) : List (HO th.R) := [.cells 175 [.ptr 1 0, .int .u64 v.f, .int .i64 v.c], .res v.M]
def toV37o (v : V37o) : List (Vl th.R) := [.i v.k, .i v.a, .i v.b, .i v.r, .i v.g, .i v.s, .i v.m, .i v.w, .i v.l, .i v.f, .i v.c, .r v.M]
def ofV37o : List (Vl th.R) → Option V37o
  | [.i k, .i a, .i b, .i r, .i g, .i s, .i m, .i w, .i l, .i f, .i c, .r M] => some ⟨k, a, b, r, g, s, m, w, l, f, c, M⟩
  | _ => none
def d37o : Ft := ⟨[.ptr 0 0, .agg [.int .i64, .int .u64, .int .i64, .int .i64, .int .i64, .int .i64, .int .u64], .int .u64, .int .i64], [.cells 175 [.ptr 1 0, .int .u64, .int .i64], .res]⟩
noncomputable def f37o_5 (v : V37o) : (Sl) := Sl.mk v.k v.a v.b v.r v.g v.s v.m (0 : Int) (0 : Int) (0 : Int)
noncomputable def f37o_6 (v : V37o) : (Int) := pNa (f37o_5 v)
noncomputable def f37o_7 (v : V37o) : (Int) := pNb (f37o_5 v)
noncomputable def f37o_8 (v : V37o) : (Int) := pNg (f37o_5 v)
noncomputable def f37o_9 (v : V37o) : (Int) := pNm (f37o_5 v)
noncomputable def f37o_10 (v : V37o) : (Wr) := wkM (fun (a : Int) => capS (ld v.M a)) v.w (v.l.toNat + (1 : Nat)) v.l (0 : Int) (f37o_6 v) (f37o_7 v) (f37o_8 v) (f37o_9 v)
noncomputable def f37o_0 (v : V37o) : (Prop) := pre111o (V111o.mk v.k v.a v.b v.r v.g v.s v.m v.w v.l v.f v.c v.M)
noncomputable def f37o_1 (v : V37o) : (Prop) := pre112 (V112.mk (f37o_6 v) (f37o_7 v) (f37o_8 v) (f37o_9 v) v.w v.l (0 : Int) v.f v.c v.M)
noncomputable def f37o_2 (v : V37o) : (Int) := cnd (!(f37o_10 v).ok) (0 : Int) (f37o_10 v).s
noncomputable def f37o_3 (v : V37o) : (Int) := cnd (!(f37o_10 v).ok) (0 : Int) (f37o_10 v).l
noncomputable def f37o_4 (v : V37o) : (Int) := cnd (!(f37o_10 v).ok) (23 : Int) (0 : Int)
noncomputable def ff37o (v : V37o) : Tr (Fin th.R) := (Tr.need (f37o_0 v) (Tr.need (f37o_1 v) (Tr.leaf (SV.tup [SV.int .u64 (f37o_2 v), SV.int .i64 (f37o_3 v), SV.int .i64 (f37o_4 v)], [(HO.cells (175 : Nat) [(SV.ptr (1 : Nat) (0:Nat)), SV.int .u64 (v.f), SV.int .i64 (v.c)]), HO.res (v.M)], List.nil))))
noncomputable def f37o (v : V37o) : Tr (Fin th.R) := (Tr.need (f37o_0 v) (Tr.need (f37o_1 v) (Tr.leaf (SV.tup [SV.int .u64 (f37o_2 v), SV.int .i64 (f37o_3 v), SV.int .i64 (f37o_4 v)], [(HO.cells (175 : Nat) [(SV.ptr (1 : Nat) (0:Nat)), SV.int .u64 (v.f), SV.int .i64 (v.c)]), HO.res (v.M)], []))))
noncomputable def C37o : CF th.R := fnC d37o ofV37o (f37o )
theorem q37o (v : V37o) : (evFn th Try.prog (auto th Try.prog nice111on [] 20) (autoH [] [] [24] [] : Hints th) 37) (A37o v) (H37o v) = some (ff37o v) := by kernel_rfl
theorem qg37o (v : V37o) : ((ff37o v).map (setD [])).get = (f37o v).get := by kernel_rfl
theorem qd37o (v : V37o) : allD 2 [] (ff37o v) = true := by kernel_rfl
theorem s37o : Sound Try.prog th 37 (C37o ) := fnC_sound (evFn_sound' (T := th) (P := Try.prog) (tbl := (auto th Try.prog nice111on [] 20)) (auto_sound (nice := nice111on) (us := []) nok111on 20) (H := (autoH [] [] [24] [] : Hints th)) (k := 37) (fnLoops (LoopsOk_mem (fun _ => rfl) _ fun _ _ _ e => by cases e))) d37o A37o H37o toV37o (by kernel_rfl) (fun v => by kernel_rfl)
  (fun l v h => by
    unfold ofV37o at h
    split at h
    · cases h; rfl
    · cases h)
  [] (fun v => ⟨ff37o v, q37o v, id, qg37o v, qd37o v⟩)
end Go.Sx.M

namespace Go.Sx.M
open Go Go.Sx Go.Proofs Go.RowKit
set_option maxRecDepth 100000
/-- A walk in a tree, from any capability: the slot, what is left, its error. -/
noncomputable def wkW (M : Mem) (z : Sl) (w l : Int) : Wr := wkM (fun a => capS (ld M a)) w (l.toNat + 1) l 0 (pNa z) (pNb z) (pNg z) (pNm z)
noncomputable def wkA (M : Mem) (z : Sl) (w l : Int) : Int := cnd (bgE z l != 0) 0 (cnd (!(wkW M z w l).ok) 0 (wkW M z w l).s)
noncomputable def wkB (M : Mem) (z : Sl) (w l : Int) : Int := cnd (bgE z l != 0) 0 (cnd (!(wkW M z w l).ok) 0 (wkW M z w l).l)
noncomputable def wkE (M : Mem) (z : Sl) (w l : Int) : Int := cnd (bgE z l != 0) (bgE z l) (cnd (!(wkW M z w l).ok) 23 0)
abbrev V37 := V37a
abbrev d37 := d37a
abbrev ofV37 := ofV37a
def cp37 (v : V37) : Sl := ⟨v.k, v.a, v.b, v.r, v.g, v.s, v.m, 0, 0, 0⟩
noncomputable def lf37 (v : V37) : Tr (Fin th.R) := .leaf (.tup [.int .u64 (wkA v.M (cp37 v) v.w v.l), .int .i64 (wkB v.M (cp37 v) v.w v.l), .int .i64 (wkE v.M (cp37 v) v.w v.l)], [.cells 175 [.ptr 1 0, .int .u64 v.f, .int .i64 v.c], .res v.M], [])
def cb37 (v : V37) : V37b := ⟨v.k, v.a, v.b, v.r, v.g, v.s, v.m, v.w, v.l, v.f, v.c, v.M⟩
def co37 (v : V37) : V37o := ⟨v.k, v.a, v.b, v.r, v.g, v.s, v.m, v.w, v.l, v.f, v.c, v.M⟩
theorem hb37 (l : List (Vl th.R)) : ofV37b l = (ofV37 l).map cb37 := by
  unfold ofV37b ofV37 ofV37a
  split
  · rfl
  · rename_i hn
    first
    | rfl
    | (split
       · exact absurd rfl (hn _ _ _ _ _ _ _ _ _ _ _ _)
       · rfl)
theorem ho37 (l : List (Vl th.R)) : ofV37o l = (ofV37 l).map co37 := by
  unfold ofV37o ofV37 ofV37a
  split
  · rfl
  · rename_i hn
    first
    | rfl
    | (split
       · exact absurd rfl (hn _ _ _ _ _ _ _ _ _ _ _ _)
       · rfl)
theorem sb37 : Sound Try.prog th 37 (fnC d37 ofV37 (fun v => f37b (cb37 v))) := by
  have := s37b
  unfold C37b at this
  rw [fnC_conv (d := d37b) (ofV := ofV37) hb37] at this
  exact this
theorem so37 : Sound Try.prog th 37 (fnC d37 ofV37 (fun v => f37o (co37 v))) := by
  have := s37o
  unfold C37o at this
  rw [fnC_conv (d := d37o) (ofV := ofV37) ho37] at this
  exact this
theorem ra37 : Sound Try.prog th 37 (fnC d37 ofV37 (fun v => .need (lbad v.l = true) (lf37 v))) := fnC_refine s37a fun v h => by
  obtain ⟨h, _⟩ := h
  have e : bgE (cp37 v) v.l = 12 := by unfold bgE; rw [h]; rfl
  refine ⟨⟨h, trivial⟩, ?_, rfl, .refl _, by show 2 ≤ 2; decide⟩
  show SV.tup [.int .u64 (wkA v.M (cp37 v) v.w v.l), .int .i64 (wkB v.M (cp37 v) v.w v.l), .int .i64 (wkE v.M (cp37 v) v.w v.l)] = _
  unfold wkA wkB wkE
  rw [e]
  rfl
theorem rb37 : Sound Try.prog th 37 (fnC d37 ofV37 (fun v => .need (lbad v.l = false ∧ pOk (cp37 v) = false) (lf37 v))) := fnC_refine sb37 fun v h => by
  obtain ⟨⟨h1, h2⟩, _⟩ := h
  have e : bgE (cp37 v) v.l = 20 := by unfold bgE; rw [h1, h2]; rfl
  refine ⟨⟨⟨h1, h2⟩, trivial⟩, ?_, rfl, .refl _, by show 2 ≤ 2; decide⟩
  show SV.tup [.int .u64 (wkA v.M (cp37 v) v.w v.l), .int .i64 (wkB v.M (cp37 v) v.w v.l), .int .i64 (wkE v.M (cp37 v) v.w v.l)] = _
  unfold wkA wkB wkE
  rw [e]
  rfl
theorem ro37 : Sound Try.prog th 37 (fnC d37 ofV37 (fun v => .need (bgE (cp37 v) v.l = 0 ∧ SlR (cp37 v) ∧ MemR v.M) (lf37 v))) := fnC_refine so37 fun v h => by
  obtain ⟨⟨h1, h2, h3⟩, _⟩ := h
  obtain ⟨k1, k2, k3, k4⟩ := bgE_ok h1
  obtain ⟨_, _, _, e2, e3, _, e5, e6⟩ := pOk_spec h2 k2
  have hp : pnOk v.l (pNb (cp37 v)) (pNg (cp37 v)) := by rw [e2, e3]; exact ⟨⟨by omega, k4⟩, e5, e6⟩
  refine ⟨⟨h1, ⟨hp, h3⟩, trivial⟩, ?_, rfl, .refl _, by show 2 ≤ 2; decide⟩
  show SV.tup [.int .u64 (wkA v.M (cp37 v) v.w v.l), .int .i64 (wkB v.M (cp37 v) v.w v.l), .int .i64 (wkE v.M (cp37 v) v.w v.l)] = _
  unfold wkA wkB wkE
  rw [h1]
  rfl
def pre37 (v : V37) : Prop := SlR (cp37 v) ∧ MemR v.M
noncomputable def f37n (v : V37) : Tr (Fin th.R) := .need (pre37 v) (lf37 v)
theorem s37n : Sound Try.prog th 37 (fnC d37 ofV37 f37n) := by
  have h1 : Sound Try.prog th 37 (fnC d37 ofV37 (fun v => .need (bgE (cp37 v) v.l ≠ 0) (lf37 v))) := fnC_two ra37 rb37 fun v h => by
    obtain ⟨h, _⟩ := h
    cases hl : lbad v.l with
    | true => exact .inl ⟨⟨rfl, trivial⟩, rfl⟩
    | false =>
      refine .inr ⟨⟨⟨rfl, ?_⟩, trivial⟩, rfl⟩
      cases hp : pOk (cp37 v) with
      | false => rfl
      | true => exact absurd (by unfold bgE; rw [hl, hp]; rfl) h
  exact fnC_two h1 ro37 fun v h => by
    obtain ⟨⟨h2, h3⟩, _⟩ := h
    by_cases h : bgE (cp37 v) v.l = 0
    · exact .inr ⟨⟨⟨h, h2, h3⟩, trivial⟩, rfl⟩
    · exact .inl ⟨⟨h, trivial⟩, rfl⟩
noncomputable def nice37n : List (Nat × CF th.R) := (37, lift (fnC d37 ofV37 f37n)) :: nice112n
theorem nok37n : NiceOk Try.prog th nice37n := ⟨lift_sound s37n, nok112n⟩
end Go.Sx.M

namespace Go.Sx.M
open Go Go.Sx Go.Proofs Go.RowKit
set_option maxRecDepth 100000
structure V40 where
  k : Int
  a : Int
  b : Int
  r : Int
  g : Int
  s : Int
  m : Int
  w : Int
  l : Int
  f : Int
  c : Int
  M : th.R
def A40 (v : V40) : List SV := [.ptr 0 0, .agg [.int .i64 v.k, .int .u64 v.a, .int .i64 v.b, .int .i64 v.r, .int .i64 v.g, .int .i64 v.s, .int .u64 v.m], .int .u64 v.w, .int .i64 v.l]
def H40 (v : V40) : List (HO th.R) := [.cells 175 [.ptr 1 0, .int .u64 v.f, .int .i64 v.c], .res v.M]
def toV40 (v : V40) : List (Vl th.R) := [.i v.k, .i v.a, .i v.b, .i v.r, .i v.g, .i v.s, .i v.m, .i v.w, .i v.l, .i v.f, .i v.c, .r v.M]
def ofV40 : List (Vl th.R) → Option V40
  | [.i k, .i a, .i b, .i r, .i g, .i s, .i m, .i w, .i l, .i f, .i c, .r M] => some ⟨k, a, b, r, g, s, m, w, l, f, c, M⟩
  | _ => none
def d40 : Ft := ⟨[.ptr 0 0, .agg [.int .i64, .int .u64, .int .i64, .int .i64, .int .i64, .int .i64, .int .u64], .int .u64, .int .i64], [.cells 175 [.ptr 1 0, .int .u64, .int .i64], .res]⟩
noncomputable def f40_3 (v : V40) : (V37a) := V37a.mk v.k v.a v.b v.r v.g v.s v.m v.w v.l v.f v.c v.M
noncomputable def f40_4 (v : V40) : (Sl) := cp37 (f40_3 v)
noncomputable def f40_5 (v : V40) : (Int) := wkE v.M (f40_4 v) v.w v.l
noncomputable def f40_0 (v : V40) : (Prop) := pre37 (f40_3 v)
noncomputable def f40_1 (v : V40) : (Int) := cnd (f40_5 v != (0 : Int)) (0 : Int) (cnd (wkB v.M (f40_4 v) v.w v.l != (0 : Int)) (0 : Int) (wkA v.M (f40_4 v) v.w v.l))
noncomputable def f40_2 (v : V40) : (Int) := cnd (f40_5 v != (0 : Int)) (f40_5 v) (cnd (wkB v.M (f40_4 v) v.w v.l != (0 : Int)) (23 : Int) (0 : Int))
noncomputable def ff40 (v : V40) : Tr (Fin th.R) := (Tr.need (f40_0 v) (Tr.leaf (SV.tup [SV.int .u64 (f40_1 v), SV.int .i64 (f40_2 v)], [(HO.cells (175 : Nat) [(SV.ptr (1 : Nat) (0:Nat)), SV.int .u64 (v.f), SV.int .i64 (v.c)]), HO.res (v.M)], List.nil)))
noncomputable def f40 (v : V40) : Tr (Fin th.R) := (Tr.need (f40_0 v) (Tr.leaf (SV.tup [SV.int .u64 (f40_1 v), SV.int .i64 (f40_2 v)], [(HO.cells (175 : Nat) [(SV.ptr (1 : Nat) (0:Nat)), SV.int .u64 (v.f), SV.int .i64 (v.c)]), HO.res (v.M)], [])))
noncomputable def C40 : CF th.R := fnC d40 ofV40 (f40 )
theorem q40 (v : V40) : (evFn th Try.prog (auto th Try.prog nice37n [] 20) (autoH [] [] [] [] : Hints th) 40) (A40 v) (H40 v) = some (ff40 v) := by kernel_rfl
theorem qg40 (v : V40) : ((ff40 v).map (setD [])).get = (f40 v).get := by kernel_rfl
theorem qd40 (v : V40) : allD 2 [] (ff40 v) = true := by kernel_rfl
theorem s40 : Sound Try.prog th 40 (C40 ) := fnC_sound (evFn_sound' (T := th) (P := Try.prog) (tbl := (auto th Try.prog nice37n [] 20)) (auto_sound (nice := nice37n) (us := []) nok37n 20) (H := (autoH [] [] [] [] : Hints th)) (k := 40) (fnLoops (LoopsOk_mem (fun _ => rfl) _ fun _ _ _ e => by cases e))) d40 A40 H40 toV40 (by kernel_rfl) (fun v => by kernel_rfl)
  (fun l v h => by
    unfold ofV40 at h
    split at h
    · cases h; rfl
    · cases h)
  [] (fun v => ⟨ff40 v, q40 v, id, qg40 v, qd40 v⟩)
theorem qdd40 (v : V40) : (f40 v).get.2.2 = [] := by
  rw [← qg40, Tr.map_get]; rfl
end Go.Sx.M

namespace Go.Sx.M
open Go Go.Sx Go.Proofs Go.RowKit
set_option maxRecDepth 100000
noncomputable def fdA (M : Mem) (z : Sl) (w l : Int) : Int := cnd (wkE M z w l != 0) 0 (cnd (wkB M z w l != 0) 0 (wkA M z w l))
noncomputable def fdE (M : Mem) (z : Sl) (w l : Int) : Int := cnd (wkE M z w l != 0) (wkE M z w l) (cnd (wkB M z w l != 0) 23 0)
def pre40 (v : V40) : Prop := SlR (Sl.mk v.k v.a v.b v.r v.g v.s v.m 0 0 0) ∧ MemR v.M
theorem n40 (v : V40) (h : pre40 v) : (f40 v).ok ∧ (f40 v).get.1 = .tup [.int .u64 (fdA v.M (Sl.mk v.k v.a v.b v.r v.g v.s v.m 0 0 0) v.w v.l), .int .i64 (fdE v.M (Sl.mk v.k v.a v.b v.r v.g v.s v.m 0 0 0) v.w v.l)] ∧ HOws (f40 v).get.2.1 [HO.cells 175 [.ptr 1 0, .int .u64 (v.f), .int .i64 (v.c)], HO.res v.M] := by
  exact ⟨⟨h, trivial⟩, rfl, .refl _⟩
noncomputable def f40n (v : V40) : Tr (Fin th.R) := .need (pre40 v) (.leaf (.tup [.int .u64 (fdA v.M (Sl.mk v.k v.a v.b v.r v.g v.s v.m 0 0 0) v.w v.l), .int .i64 (fdE v.M (Sl.mk v.k v.a v.b v.r v.g v.s v.m 0 0 0) v.w v.l)], [.cells 175 [.ptr 1 0, .int .u64 (v.f), .int .i64 (v.c)], .res v.M], []))
theorem s40n : Sound Try.prog th 40 (fnC d40 ofV40 f40n) := fnC_refine s40 fun v h => by
  obtain ⟨hp, _⟩ := h
  obtain ⟨a, b, c⟩ := n40 v hp
  exact ⟨a, b.symm, (qdd40 v).symm, c, by show 2 ≤ 2; decide⟩
noncomputable def nice40n : List (Nat × CF th.R) := (40, lift (fnC d40 ofV40 f40n)) :: nice37n
theorem nok40n : NiceOk Try.prog th nice40n := ⟨lift_sound s40n, nok37n⟩
end Go.Sx.M

namespace Go.Sx.M
open Go Go.Sx Go.Proofs Go.RowKit
set_option maxRecDepth 100000
structure V35 where
def A35 (v : V35) : List SV := []
def H35 (v : V35) : List (HO th.R) := []
def toV35 (v : V35) : List (Vl th.R) := []
def ofV35 : List (Vl th.R) → Option V35
  | [] => some ⟨⟩
  | _ => none
def d35 : Ft := ⟨[], []⟩
noncomputable def f35_0 (v : V35) : (Prop) := ∀ (i : Nat), scpL (0:Nat) (rowEl (1 : Nat) (8 : Nat) (setMany (List.map (fun (i : Nat) => [SV.int IntKind.u64 (0 : Int), SV.int IntKind.i64 (0 : Int), SV.int IntKind.u64 (0 : Int), SV.int IntKind.i64 (0 : Int), SV.int IntKind.i64 (0 : Int), SV.int IntKind.i64 (0 : Int), SV.int IntKind.i64 (0 : Int), SV.int IntKind.u64 (0 : Int)].getD (i % (8 : Nat)) Inhabited.default) (List.range (8 : Nat))) (0:Nat) (SV.agg (setMany (setMany [SV.int IntKind.u64 (0 : Int), SV.int IntKind.i64 (0 : Int), SV.int IntKind.u64 (0 : Int), SV.int IntKind.i64 (0 : Int), SV.int IntKind.i64 (0 : Int), SV.int IntKind.i64 (0 : Int), SV.int IntKind.i64 (0 : Int), SV.int IntKind.u64 (0 : Int)] (0:Nat) (SV.int IntKind.u64 (352 : Int)).cells) (1 : Nat) (SV.agg (setMany (setMany (setMany (setMany (setMany [SV.int IntKind.i64 (0 : Int), SV.int IntKind.u64 (0 : Int), SV.int IntKind.i64 (0 : Int), SV.int IntKind.i64 (0 : Int), SV.int IntKind.i64 (0 : Int), SV.int IntKind.i64 (0 : Int), SV.int IntKind.u64 (0 : Int)] (0:Nat) (SV.int IntKind.i64 (2 : Int)).cells) (1 : Nat) (SV.int IntKind.u64 (512 : Int)).cells) (2 : Nat) (SV.int IntKind.i64 (3 : Int)).cells) (4 : Nat) (SV.int IntKind.i64 (1 : Int)).cells) (6 : Nat) (SV.int IntKind.u64 (1 : Int)).cells)).cells)).cells) i) = true
noncomputable def f35_1 (v : V35) : (Prop) := ∀ (i : Nat), i < (1 : Nat) → rowEl (1 : Nat) (8 : Nat) (setMany (List.map (fun (i : Nat) => [SV.int IntKind.u64 (0 : Int), SV.int IntKind.i64 (0 : Int), SV.int IntKind.u64 (0 : Int), SV.int IntKind.i64 (0 : Int), SV.int IntKind.i64 (0 : Int), SV.int IntKind.i64 (0 : Int), SV.int IntKind.i64 (0 : Int), SV.int IntKind.u64 (0 : Int)].getD (i % (8 : Nat)) Inhabited.default) (List.range (8 : Nat))) (0:Nat) (SV.agg (setMany (setMany [SV.int IntKind.u64 (0 : Int), SV.int IntKind.i64 (0 : Int), SV.int IntKind.u64 (0 : Int), SV.int IntKind.i64 (0 : Int), SV.int IntKind.i64 (0 : Int), SV.int IntKind.i64 (0 : Int), SV.int IntKind.i64 (0 : Int), SV.int IntKind.u64 (0 : Int)] (0:Nat) (SV.int IntKind.u64 (352 : Int)).cells) (1 : Nat) (SV.agg (setMany (setMany (setMany (setMany (setMany [SV.int IntKind.i64 (0 : Int), SV.int IntKind.u64 (0 : Int), SV.int IntKind.i64 (0 : Int), SV.int IntKind.i64 (0 : Int), SV.int IntKind.i64 (0 : Int), SV.int IntKind.i64 (0 : Int), SV.int IntKind.u64 (0 : Int)] (0:Nat) (SV.int IntKind.i64 (2 : Int)).cells) (1 : Nat) (SV.int IntKind.u64 (512 : Int)).cells) (2 : Nat) (SV.int IntKind.i64 (3 : Int)).cells) (4 : Nat) (SV.int IntKind.i64 (1 : Int)).cells) (6 : Nat) (SV.int IntKind.u64 (1 : Int)).cells)).cells)).cells) i = elC (rowEl (1 : Nat) (8 : Nat) (setMany (List.map (fun (i : Nat) => [SV.int IntKind.u64 (0 : Int), SV.int IntKind.i64 (0 : Int), SV.int IntKind.u64 (0 : Int), SV.int IntKind.i64 (0 : Int), SV.int IntKind.i64 (0 : Int), SV.int IntKind.i64 (0 : Int), SV.int IntKind.i64 (0 : Int), SV.int IntKind.u64 (0 : Int)].getD (i % (8 : Nat)) Inhabited.default) (List.range (8 : Nat))) (0:Nat) (SV.agg (setMany (setMany [SV.int IntKind.u64 (0 : Int), SV.int IntKind.i64 (0 : Int), SV.int IntKind.u64 (0 : Int), SV.int IntKind.i64 (0 : Int), SV.int IntKind.i64 (0 : Int), SV.int IntKind.i64 (0 : Int), SV.int IntKind.i64 (0 : Int), SV.int IntKind.u64 (0 : Int)] (0:Nat) (SV.int IntKind.u64 (352 : Int)).cells) (1 : Nat) (SV.agg (setMany (setMany (setMany (setMany (setMany [SV.int IntKind.i64 (0 : Int), SV.int IntKind.u64 (0 : Int), SV.int IntKind.i64 (0 : Int), SV.int IntKind.i64 (0 : Int), SV.int IntKind.i64 (0 : Int), SV.int IntKind.i64 (0 : Int), SV.int IntKind.u64 (0 : Int)] (0:Nat) (SV.int IntKind.i64 (2 : Int)).cells) (1 : Nat) (SV.int IntKind.u64 (512 : Int)).cells) (2 : Nat) (SV.int IntKind.i64 (3 : Int)).cells) (4 : Nat) (SV.int IntKind.i64 (1 : Int)).cells) (6 : Nat) (SV.int IntKind.u64 (1 : Int)).cells)).cells)).cells)) (0:Nat) [Ck.int IntKind.u64, Ck.int IntKind.i64, Ck.int IntKind.u64, Ck.int IntKind.i64, Ck.int IntKind.i64, Ck.int IntKind.i64, Ck.int IntKind.i64, Ck.int IntKind.u64] i
noncomputable def f35_2 (v : V35) : (Prop) := pre36r (V36r.mk (1 : Nat) (1 : Nat) (fun (j : Nat) => (352 : Int)) (fun (j : Nat) => (2 : Int)) (fun (j : Nat) => (512 : Int)) (fun (j : Nat) => (3 : Int)) (fun (j : Nat) => (0 : Int)) (fun (j : Nat) => (1 : Int)) (fun (j : Nat) => (0 : Int)) fun (j : Nat) => (1 : Int))
noncomputable def f35_3 (v : V35) : (Prop) := (∀ (i : Nat), scpL (0:Nat) (rowEl (1 : Nat) (8 : Nat) (setMany (List.map (fun (i : Nat) => [SV.int IntKind.u64 (0 : Int), SV.int IntKind.i64 (0 : Int), SV.int IntKind.u64 (0 : Int), SV.int IntKind.i64 (0 : Int), SV.int IntKind.i64 (0 : Int), SV.int IntKind.i64 (0 : Int), SV.int IntKind.i64 (0 : Int), SV.int IntKind.u64 (0 : Int)].getD (i % (8 : Nat)) Inhabited.default) (List.range (8 : Nat))) (0:Nat) (SV.agg (setMany (setMany [SV.int IntKind.u64 (0 : Int), SV.int IntKind.i64 (0 : Int), SV.int IntKind.u64 (0 : Int), SV.int IntKind.i64 (0 : Int), SV.int IntKind.i64 (0 : Int), SV.int IntKind.i64 (0 : Int), SV.int IntKind.i64 (0 : Int), SV.int IntKind.u64 (0 : Int)] (0:Nat) (SV.int IntKind.u64 (352 : Int)).cells) (1 : Nat) (SV.agg (setMany (setMany (setMany (setMany (setMany [SV.int IntKind.i64 (0 : Int), SV.int IntKind.u64 (0 : Int), SV.int IntKind.i64 (0 : Int), SV.int IntKind.i64 (0 : Int), SV.int IntKind.i64 (0 : Int), SV.int IntKind.i64 (0 : Int), SV.int IntKind.u64 (0 : Int)] (0:Nat) (SV.int IntKind.i64 (2 : Int)).cells) (1 : Nat) (SV.int IntKind.u64 (512 : Int)).cells) (2 : Nat) (SV.int IntKind.i64 (3 : Int)).cells) (4 : Nat) (SV.int IntKind.i64 (1 : Int)).cells) (6 : Nat) (SV.int IntKind.u64 (1 : Int)).cells)).cells)).cells) i) = true) ∧ ∀ (i : Nat), scpL (0:Nat) ((fun (j : Nat) => ndC (gN (opS (nds (ndf (fun (j : Nat) => (352 : Int)) (fun (j : Nat) => (2 : Int)) (fun (j : Nat) => (512 : Int)) (fun (j : Nat) => (3 : Int)) (fun (j : Nat) => (0 : Int)) (fun (j : Nat) => (1 : Int)) (fun (j : Nat) => (0 : Int)) (fun (j : Nat) => (1 : Int)) fun (j : Nat) => (0 : Int)) (1 : Nat))).snd j)) i) = true
noncomputable def f35_4 (v : V35) : (Prop) := false = false → pre40 (V40.mk (2 : Int) (256 : Int) (2 : Int) (0 : Int) (62 : Int) (0 : Int) (0 : Int) (3 : Int) (64 : Int) (352 : Int) (1 : Int) (opS (nds (ndf (fun (j : Nat) => (352 : Int)) (fun (j : Nat) => (2 : Int)) (fun (j : Nat) => (512 : Int)) (fun (j : Nat) => (3 : Int)) (fun (j : Nat) => (0 : Int)) (fun (j : Nat) => (1 : Int)) (fun (j : Nat) => (0 : Int)) (fun (j : Nat) => (1 : Int)) fun (j : Nat) => (0 : Int)) (1 : Nat))).fst.M)
noncomputable def f35_5 (v : V35) : (Prop) := false = false → pre40 (V40.mk (2 : Int) (256 : Int) (2 : Int) (0 : Int) (62 : Int) (0 : Int) (0 : Int) (3 : Int) (62 : Int) (352 : Int) (1 : Int) (opS (nds (ndf (fun (j : Nat) => (352 : Int)) (fun (j : Nat) => (2 : Int)) (fun (j : Nat) => (512 : Int)) (fun (j : Nat) => (3 : Int)) (fun (j : Nat) => (0 : Int)) (fun (j : Nat) => (1 : Int)) (fun (j : Nat) => (0 : Int)) (fun (j : Nat) => (1 : Int)) fun (j : Nat) => (0 : Int)) (1 : Nat))).fst.M)
noncomputable def f35_6 (v : V35) : (Prop) := false = false → pre37 (V37a.mk (2 : Int) (256 : Int) (2 : Int) (0 : Int) (0 : Int) (0 : Int) (0 : Int) (61 : Int) (6 : Int) (352 : Int) (1 : Int) (opS (nds (ndf (fun (j : Nat) => (352 : Int)) (fun (j : Nat) => (2 : Int)) (fun (j : Nat) => (512 : Int)) (fun (j : Nat) => (3 : Int)) (fun (j : Nat) => (0 : Int)) (fun (j : Nat) => (1 : Int)) (fun (j : Nat) => (0 : Int)) (fun (j : Nat) => (1 : Int)) fun (j : Nat) => (0 : Int)) (1 : Nat))).fst.M)
theorem n_f35_0 (v : V35) : f35_0 v := by
  unfold f35_0
  first
    | (intros; rfl)
    | (intro i; rfl)
    | (intro i _; rfl)
    | (intro _ i; rfl)
    | (intro _ i _; rfl)
    | (refine ⟨?_, ?_⟩ <;> intro i <;> rfl)
    | (refine ⟨?_, ?_, ?_⟩ <;> intro i <;> rfl)
    | (refine ⟨?_, ?_⟩ <;> intro i _ <;> rfl)
    | (repeat' apply And.intro) <;> first | (intro i; rfl) | (intro i _; rfl) | (intro i h; exact absurd h (Nat.not_lt_zero i)) | (intro i; exact scpL_rowSet (by rfl) (by rfl)) | (intro i; exact scpL_rowEl (by kernel_rfl) _)
    | (intros; (repeat' apply And.intro) <;> intros <;> first | rfl | (exact absurd (by assumption) (Nat.not_lt_zero _)))
    | omega
    | decide
theorem n_f35_1 (v : V35) : f35_1 v := by
  unfold f35_1
  first
    | (intros; rfl)
    | (intro i; rfl)
    | (intro i _; rfl)
    | (intro _ i; rfl)
    | (intro _ i _; rfl)
    | (refine ⟨?_, ?_⟩ <;> intro i <;> rfl)
    | (refine ⟨?_, ?_, ?_⟩ <;> intro i <;> rfl)
    | (refine ⟨?_, ?_⟩ <;> intro i _ <;> rfl)
    | (repeat' apply And.intro) <;> first | (intro i; rfl) | (intro i _; rfl) | (intro i h; exact absurd h (Nat.not_lt_zero i)) | (intro i; exact scpL_rowSet (by rfl) (by rfl)) | (intro i; exact scpL_rowEl (by kernel_rfl) _)
    | (intros; (repeat' apply And.intro) <;> intros <;> first | rfl | (exact absurd (by assumption) (Nat.not_lt_zero _)))
    | omega
    | decide
theorem n_f35_3 (v : V35) : f35_3 v := by
  unfold f35_3
  first
    | (intros; rfl)
    | (intro i; rfl)
    | (intro i _; rfl)
    | (intro _ i; rfl)
    | (intro _ i _; rfl)
    | (refine ⟨?_, ?_⟩ <;> intro i <;> rfl)
    | (refine ⟨?_, ?_, ?_⟩ <;> intro i <;> rfl)
    | (refine ⟨?_, ?_⟩ <;> intro i _ <;> rfl)
    | (repeat' apply And.intro) <;> first | (intro i; rfl) | (intro i _; rfl) | (intro i h; exact absurd h (Nat.not_lt_zero i)) | (intro i; exact scpL_rowSet (by rfl) (by rfl)) | (intro i; exact scpL_rowEl (by kernel_rfl) _)
    | (intros; (repeat' apply And.intro) <;> intros <;> first | rfl | (exact absurd (by assumption) (Nat.not_lt_zero _)))
    | omega
    | decide
noncomputable def ff35 (v : V35) : Tr (Fin th.R) := (Tr.need (f35_0 v) (Tr.need (f35_1 v) (Tr.need (f35_2 v) (Tr.need (f35_3 v) (Tr.need (f35_4 v) (Tr.need (f35_5 v) (Tr.need (f35_6 v) (Tr.leaf (SV.bool (true), List.nil, List.nil)))))))))
noncomputable def f35 (v : V35) : Tr (Fin th.R) := (Tr.need (f35_2 v) (Tr.need (f35_4 v) (Tr.need (f35_5 v) (Tr.need (f35_6 v) (Tr.leaf (SV.bool (true), List.nil, []))))))
noncomputable def C35 : CF th.R := fnC d35 ofV35 (f35 )
theorem q35 (v : V35) : (evFn th Try.prog (auto th Try.prog nice40n [] 20) (autoH [] [] [] [] : Hints th) 35) (A35 v) (H35 v) = some (ff35 v) := by kernel_rfl
theorem qg35 (v : V35) : ((ff35 v).map (setD [])).get = (f35 v).get := by kernel_rfl
theorem qd35 (v : V35) : allD 0 [] (ff35 v) = true := by kernel_rfl
theorem s35 : Sound Try.prog th 35 (C35 ) := fnC_sound (evFn_sound' (T := th) (P := Try.prog) (tbl := (auto th Try.prog nice40n [] 20)) (auto_sound (nice := nice40n) (us := []) nok40n 20) (H := (autoH [] [] [] [] : Hints th)) (k := 35) (fnLoops (LoopsOk_mem (fun _ => rfl) _ fun _ _ _ e => by cases e))) d35 A35 H35 toV35 (by kernel_rfl) (fun v => by kernel_rfl)
  (fun l v h => by
    unfold ofV35 at h
    split at h
    · cases h; rfl
    · cases h)
  [] (fun v => ⟨ff35 v, q35 v, fun h => by
    unfold f35 at h; unfold ff35
    simp only [Tr.ok, n_f35_0, n_f35_1, n_f35_3, true_and, and_true, forall_const, implies_true] at h ⊢
    try exact h, qg35 v, qd35 v⟩)
theorem qdd35 (v : V35) : (f35 v).get.2.2 = [] := by
  rw [← qg35, Tr.map_get]; rfl
end Go.Sx.M

namespace Go.Sx.M
open Go Go.Sx Go.Proofs Go.RowKit
set_option maxRecDepth 100000
def pre35 (v : V35) : Prop := True
theorem n35 (v : V35) (h : pre35 v) : (f35 v).ok ∧ (f35 v).get.1 = .bool true ∧ HOws (f35 v).get.2.1 [] := by
  have h0 : ∀ j, j < 1 → U64 352 ∧ SlR (slN (ndf (fun _ => 352) (fun _ => 2) (fun _ => 512) (fun _ => 3) (fun _ => 0) (fun _ => 1) (fun _ => 0) (fun _ => 1) (fun _ => 0) j)) := by
    intro j hj
    obtain rfl : j = 0 := by omega
    (repeat' first | intro _ | apply And.intro | apply SlR.mk) <;> first | trivial | decide
  have g0 := (opS_R (ndf (fun _ => 352) (fun _ => 2) (fun _ => 512) (fun _ => 3) (fun _ => 0) (fun _ => 1) (fun _ => 0) (fun _ => 1) (fun _ => 0)) 1 h0).1
  have c1 : SlR ⟨2, 256, 2, 0, 62, 0, 0, 0, 0, 0⟩ := by (repeat' first | apply SlR.mk | apply And.intro) <;> decide
  have c2 : SlR ⟨2, 256, 2, 0, 0, 0, 0, 0, 0, 0⟩ := by (repeat' first | apply SlR.mk | apply And.intro) <;> decide
  exact ⟨⟨⟨⟨rfl, by decide⟩, h0⟩, fun _ => ⟨c1, g0⟩, fun _ => ⟨c1, g0⟩, fun _ => ⟨c2, g0⟩, trivial⟩, rfl, .refl _⟩
noncomputable def f35n (v : V35) : Tr (Fin th.R) := .need (pre35 v) (.leaf (.bool true, [], []))
theorem s35n : Sound Try.prog th 35 (fnC d35 ofV35 f35n) := fnC_refine s35 fun v h => by
  obtain ⟨hp, _⟩ := h
  obtain ⟨a, b, c⟩ := n35 v hp
  exact ⟨a, b.symm, (qdd35 v).symm, c, by show 0 ≤ 0; decide⟩
noncomputable def nice35n : List (Nat × CF th.R) := (35, lift (fnC d35 ofV35 f35n)) :: nice40n
theorem nok35n : NiceOk Try.prog th nice35n := ⟨lift_sound s35n, nok40n⟩
end Go.Sx.M

namespace Go.Sx.M
open Go Go.Sx Go.Proofs Go.RowKit
set_option maxRecDepth 100000
structure V36z where
def A36z (v : V36z) : List SV := [.nils]
def H36z (v : V36z) : List (HO th.R) := []
def toV36z (v : V36z) : List (Vl th.R) := []
def ofV36z : List (Vl th.R) → Option V36z
  | [] => some ⟨⟩
  | _ => none
def d36z : Ft := ⟨[.nils], []⟩
theorem ok36z : LoopsOk th Try.prog (autoH [] [(7, 2)] [27] [] : Hints th) (bodyOf Try.prog 36) := autoH_ok (bs := [lpAt Try.prog 36 0]) (by kernel_rfl) fun b hb L hL => by
  simp only [List.mem_cons, List.not_mem_nil, or_false] at hb
  rcases hb with rfl
  · have e : lookL [] (firstReg (lpAt Try.prog 36 0)) = (none : Option (St th.R → Out th)) := by kernel_rfl
    rw [e] at hL; cases hL
noncomputable def f36z_0 (v : V36z) : (Mem) := newM (65536 : Int)
noncomputable def ff36z (v : V36z) : Tr (Fin th.R) := (Tr.ite (false) (Tr.leaf ((SV.tup [SV.nilp, (SV.agg [(SV.int .u64 (65536 : Int)), SV.nils])]), List.nil, List.nil)) (Tr.leaf ((SV.tup [(SV.ptr (3) (0:Nat)), (SV.agg [(SV.int .u64 (65536 : Int)), SV.nils])]), [(HO.cells (55 : Nat) [(SV.int .u64 (65536 : Int)), SV.nils]), HO.res (f36z_0 v), (HO.cells (55 : Nat) [(SV.int .u64 (65536 : Int)), SV.nils]), (HO.cells (175 : Nat) [(SV.ptr (1) (0:Nat)), (SV.int .u64 (0 : Int)), (SV.int .i64 (0 : Int))])], [0, 2])))
noncomputable def f36z (v : V36z) : Tr (Fin th.R) := (Tr.ite (false) (Tr.leaf ((SV.tup [SV.nilp, (SV.agg [(SV.int .u64 (65536 : Int)), SV.nils])]), List.nil, [])) (Tr.leaf ((SV.tup [(SV.ptr (3) (0:Nat)), (SV.agg [(SV.int .u64 (65536 : Int)), SV.nils])]), [(HO.cells (55 : Nat) [(SV.int .u64 (65536 : Int)), SV.nils]), HO.res (f36z_0 v), (HO.cells (55 : Nat) [(SV.int .u64 (65536 : Int)), SV.nils]), (HO.cells (175 : Nat) [(SV.ptr (1) (0:Nat)), (SV.int .u64 (0 : Int)), (SV.int .i64 (0 : Int))])], [])))
noncomputable def C36z : CF th.R := fnC d36z ofV36z (f36z )
theorem q36z (v : V36z) : (evFn th Try.prog (auto th Try.prog nice35n [] 20) (autoH [] [(7, 2)] [27] [] : Hints th) 36) (A36z v) (H36z v) = some (ff36z v) := by kernel_rfl
theorem qg36z (v : V36z) : ((ff36z v).map (setD [])).get = (f36z v).get := by kernel_rfl
theorem qd36z (v : V36z) : allD 0 [] (ff36z v) = true := by kernel_rfl
theorem s36z : Sound Try.prog th 36 (C36z ) := fnC_sound (evFn_sound' (T := th) (P := Try.prog) (tbl := (auto th Try.prog nice35n [] 20)) (auto_sound (nice := nice35n) (us := []) nok35n 20) (H := (autoH [] [(7, 2)] [27] [] : Hints th)) (k := 36) (fnLoops ok36z)) d36z A36z H36z toV36z (by kernel_rfl) (fun v => by kernel_rfl)
  (fun l v h => by
    unfold ofV36z at h
    split at h
    · cases h; rfl
    · cases h)
  [] (fun v => ⟨ff36z v, q36z v, id, qg36z v, qd36z v⟩)
theorem qdd36z (v : V36z) : (f36z v).get.2.2 = [] := by
  rw [← qg36z, Tr.map_get]; rfl
end Go.Sx.M

namespace Go.Sx.M
open Go Go.Sx Go.Proofs Go.RowKit
set_option maxRecDepth 100000
def pre36z (v : V36z) : Prop := True
theorem n36z (v : V36z) (h : pre36z v) : (f36z v).ok ∧ (f36z v).get.1 = .tup [.ptr 3 0, .agg [.int .u64 65536, .nils]] ∧ HOws (f36z v).get.2.1 [HO.gone, HO.res op0.1.M, HO.gone, HO.cells 175 [.ptr 1 0, .int .u64 0, .int .i64 0]] := by
  refine ⟨⟨(fun e => by cases e), fun _ => trivial⟩, rfl, ?_⟩
  exact .cons (.inr (.inl rfl)) (.cons (.inl rfl) (.cons (.inr (.inl rfl)) (.cons (.inl rfl) .nil)))
noncomputable def f36zn (v : V36z) : Tr (Fin th.R) := .need (pre36z v) (.leaf (.tup [.ptr 3 0, .agg [.int .u64 65536, .nils]], [.gone, .res op0.1.M, .gone, .cells 175 [.ptr 1 0, .int .u64 0, .int .i64 0]], []))
theorem s36zn : Sound Try.prog th 36 (fnC d36z ofV36z f36zn) := fnC_refine s36z fun v h => by
  obtain ⟨hp, _⟩ := h
  obtain ⟨a, b, c⟩ := n36z v hp
  exact ⟨a, b.symm, (qdd36z v).symm, c, by show 0 ≤ 4; decide⟩
noncomputable def D36z : CF th.R := fnC d36z ofV36z f36zn
noncomputable def nice36zn : List (Nat × CF th.R) := (36, lift (orC (orC D36 D36r) D36z)) :: nice35n
theorem nok36zn : NiceOk Try.prog th nice36zn := ⟨lift_sound (orC_sound (orC_sound s36n s36rn) s36zn), nok35n⟩
end Go.Sx.M

namespace Go.Sx.M
open Go Go.Sx Go.Proofs Go.RowKit
set_option maxRecDepth 100000
structure V51 where
  k : Int
  a : Int
  b : Int
  r : Int
  g : Int
  s : Int
  m : Int
  n : Int
def A51 (v : V51) : List SV := [.agg [.int .i64 v.k, .int .u64 v.a, .int .i64 v.b, .int .i64 v.r, .int .i64 v.g, .int .i64 v.s, .int .u64 v.m], .int .i64 v.n]
def H51 (v : V51) : List (HO th.R) := []
def toV51 (v : V51) : List (Vl th.R) := [.i v.k, .i v.a, .i v.b, .i v.r, .i v.g, .i v.s, .i v.m, .i v.n]
def ofV51 : List (Vl th.R) → Option V51
  | [.i k, .i a, .i b, .i r, .i g, .i s, .i m, .i n] => some ⟨k, a, b, r, g, s, m, n⟩
  | _ => none
def d51 : Ft := ⟨[.agg [.int .i64, .int .u64, .int .i64, .int .i64, .int .i64, .int .i64, .int .u64], .int .i64], []⟩
noncomputable def f51_3 (v : V51) : (Sl) := Sl.mk v.k v.a v.b v.r v.g v.s v.m (0 : Int) (0 : Int) (0 : Int)
noncomputable def f51_4 (v : V51) : (Int) := f129_1 v.k v.a v.b v.r v.g v.s v.m
noncomputable def f51_0 (v : V51) : (Prop) := pre124 (V124.mk v.k v.a v.b v.r v.g v.s v.m)
noncomputable def f51_1 (v : V51) : (Int) := cnd (!pOk (f51_3 v)) (0 : Int) (cnd (cnd (decide (v.n < (0 : Int))) true (decide (v.n ≥ f51_4 v))) (0 : Int) (IntKind.u64.wrap (pNa (f51_3 v) + IntKind.u64.wrap (IntKind.u64.wrap v.n * (32 : Int)))))
noncomputable def f51_2 (v : V51) : (Int) := cnd (!pOk (f51_3 v)) (20 : Int) (cnd (cnd (decide (v.n < (0 : Int))) true (decide (v.n ≥ f51_4 v))) (12 : Int) (0 : Int))
noncomputable def ff51 (v : V51) : Tr (Fin th.R) := (Tr.need (f51_0 v) (Tr.leaf (SV.tup [SV.int .u64 (f51_1 v), SV.int .i64 (f51_2 v)], List.nil, List.nil)))
noncomputable def f51 (v : V51) : Tr (Fin th.R) := (Tr.need (f51_0 v) (Tr.leaf (SV.tup [SV.int .u64 (f51_1 v), SV.int .i64 (f51_2 v)], List.nil, [])))
noncomputable def C51 : CF th.R := fnC d51 ofV51 (f51 )
theorem q51 (v : V51) : (evFn th Try.prog (auto th Try.prog nice36zn [] 20) (autoH [] [] [] [] : Hints th) 51) (A51 v) (H51 v) = some (ff51 v) := by kernel_rfl
theorem qg51 (v : V51) : ((ff51 v).map (setD [])).get = (f51 v).get := by kernel_rfl
theorem qd51 (v : V51) : allD 0 [] (ff51 v) = true := by kernel_rfl
theorem s51 : Sound Try.prog th 51 (C51 ) := fnC_sound (evFn_sound' (T := th) (P := Try.prog) (tbl := (auto th Try.prog nice36zn [] 20)) (auto_sound (nice := nice36zn) (us := []) nok36zn 20) (H := (autoH [] [] [] [] : Hints th)) (k := 51) (fnLoops (LoopsOk_mem (fun _ => rfl) _ fun _ _ _ e => by cases e))) d51 A51 H51 toV51 (by kernel_rfl) (fun v => by kernel_rfl)
  (fun l v h => by
    unfold ofV51 at h
    split at h
    · cases h; rfl
    · cases h)
  [] (fun v => ⟨ff51 v, q51 v, id, qg51 v, qd51 v⟩)
noncomputable def nice51 : List (Nat × CF th.R) := (51, lift C51) :: nice36zn
theorem nok51 : NiceOk Try.prog th nice51 := ⟨lift_sound s51, nok36zn⟩
end Go.Sx.M

namespace Go.Sx.M
open Go Go.Sx Go.Proofs Go.RowKit
set_option maxRecDepth 100000
structure V49 where
  k : Int
  a : Int
  b : Int
  r : Int
  g : Int
  s : Int
  m : Int
  at_ : Int
def A49 (v : V49) : List SV := [.agg [.int .i64 v.k, .int .u64 v.a, .int .i64 v.b, .int .i64 v.r, .int .i64 v.g, .int .i64 v.s, .int .u64 v.m], .int .u64 v.at_]
def H49 (v : V49) : List (HO th.R) := []
def toV49 (v : V49) : List (Vl th.R) := [.i v.k, .i v.a, .i v.b, .i v.r, .i v.g, .i v.s, .i v.m, .i v.at_]
def ofV49 : List (Vl th.R) → Option V49
  | [.i k, .i a, .i b, .i r, .i g, .i s, .i m, .i at_] => some ⟨k, a, b, r, g, s, m, at_⟩
  | _ => none
def d49 : Ft := ⟨[.agg [.int .i64, .int .u64, .int .i64, .int .i64, .int .i64, .int .i64, .int .u64], .int .u64], []⟩
noncomputable def f49_5 (v : V49) : (Sl) := Sl.mk v.k v.a v.b v.r v.g v.s v.m (0 : Int) (0 : Int) (0 : Int)
noncomputable def f49_6 (v : V49) : (Bool) := !pOk (f49_5 v)
noncomputable def f49_7 (v : V49) : (Int) := pNa (f49_5 v)
noncomputable def f49_8 (v : V49) : (Int) := f126_0 v.k v.a v.b v.r v.g v.s v.m
noncomputable def f49_9 (v : V49) : (Bool) := cnd (decide (v.at_ < f49_7 v)) true (decide (v.at_ ≥ f49_8 v))
noncomputable def f49_10 (v : V49) : (Int) := pNb (f49_5 v)
noncomputable def f49_0 (v : V49) : (Prop) := pre124 (V124.mk v.k v.a v.b v.r v.g v.s v.m)
noncomputable def f49_1 (v : V49) : (Prop) := f49_6 v = false → (!f125_0 v.at_ (5 : Int)) = false → f49_9 v = false → (true = true → (0 : Int) ≤ f49_10 v) ∧ (true = true → (32 : Int) ≠ (0 : Int))
noncomputable def f49_2 (v : V49) : (Int) := cnd (f49_6 v) (0 : Int) (cnd (!f125_0 v.at_ (5 : Int)) (0 : Int) (cnd (f49_9 v) (0 : Int) (Go.bits Go.BinOp.or IntKind.u64 (IntKind.u64.wrap (pNm (f49_5 v) * (2 : Int) ^ Min.min (f49_10 v).toNat (64 : Nat))) (IntKind.u64.wrap ((IntKind.u64.wrap (v.at_ - f49_7 v)).tdiv (32 : Int))))))
noncomputable def f49_3 (v : V49) : (Int) := cnd (f49_6 v) (0 : Int) (cnd (!f125_0 v.at_ (5 : Int)) (0 : Int) (cnd (f49_9 v) (0 : Int) (IntKind.i64.wrap (pNg (f49_5 v) + f49_10 v))))
noncomputable def f49_4 (v : V49) : (Int) := cnd (f49_6 v) (20 : Int) (cnd (!f125_0 v.at_ (5 : Int)) (13 : Int) (cnd (f49_9 v) (12 : Int) (0 : Int)))
noncomputable def ff49 (v : V49) : Tr (Fin th.R) := (Tr.need (f49_0 v) (Tr.need (f49_1 v) (Tr.leaf (SV.tup [SV.int .u64 (f49_2 v), SV.int .i64 (f49_3 v), SV.int .i64 (f49_4 v)], List.nil, List.nil))))
noncomputable def f49 (v : V49) : Tr (Fin th.R) := (Tr.need (f49_0 v) (Tr.need (f49_1 v) (Tr.leaf (SV.tup [SV.int .u64 (f49_2 v), SV.int .i64 (f49_3 v), SV.int .i64 (f49_4 v)], List.nil, []))))
noncomputable def C49 : CF th.R := fnC d49 ofV49 (f49 )
theorem q49 (v : V49) : (evFn th Try.prog (auto th Try.prog nice51 [] 20) (autoH [] [] [] [] : Hints th) 49) (A49 v) (H49 v) = some (ff49 v) := by kernel_rfl
theorem qg49 (v : V49) : ((ff49 v).map (setD [])).get = (f49 v).get := by kernel_rfl
theorem qd49 (v : V49) : allD 0 [] (ff49 v) = true := by kernel_rfl
theorem s49 : Sound Try.prog th 49 (C49 ) := fnC_sound (evFn_sound' (T := th) (P := Try.prog) (tbl := (auto th Try.prog nice51 [] 20)) (auto_sound (nice := nice51) (us := []) nok51 20) (H := (autoH [] [] [] [] : Hints th)) (k := 49) (fnLoops (LoopsOk_mem (fun _ => rfl) _ fun _ _ _ e => by cases e))) d49 A49 H49 toV49 (by kernel_rfl) (fun v => by kernel_rfl)
  (fun l v h => by
    unfold ofV49 at h
    split at h
    · cases h; rfl
    · cases h)
  [] (fun v => ⟨ff49 v, q49 v, id, qg49 v, qd49 v⟩)
noncomputable def nice49 : List (Nat × CF th.R) := (49, lift C49) :: nice51
theorem nok49 : NiceOk Try.prog th nice49 := ⟨lift_sound s49, nok51⟩
end Go.Sx.M

namespace Go.Sx.M
open Go Go.Sx Go.Proofs Go.RowKit
set_option maxRecDepth 100000
structure V77 where
  k : Int
  a : Int
  b : Int
  r : Int
  g : Int
  s : Int
  m : Int
  at_ : Int
  kq : Int
  aq : Int
  bq : Int
  rq : Int
  gq : Int
  sq : Int
  mq : Int
  x : Int
def A77 (v : V77) : List SV := [.agg [.int .i64 v.k, .int .u64 v.a, .int .i64 v.b, .int .i64 v.r, .int .i64 v.g, .int .i64 v.s, .int .u64 v.m], .int .u64 v.at_, .agg [.int .i64 v.kq, .int .u64 v.aq, .int .i64 v.bq, .int .i64 v.rq, .int .i64 v.gq, .int .i64 v.sq, .int .u64 v.mq], .int .u64 v.x]
def H77 (v : V77) : List (HO th.R) := []
def toV77 (v : V77) : List (Vl th.R) := [.i v.k, .i v.a, .i v.b, .i v.r, .i v.g, .i v.s, .i v.m, .i v.at_, .i v.kq, .i v.aq, .i v.bq, .i v.rq, .i v.gq, .i v.sq, .i v.mq, .i v.x]
def ofV77 : List (Vl th.R) → Option V77
  | [.i k, .i a, .i b, .i r, .i g, .i s, .i m, .i at_, .i kq, .i aq, .i bq, .i rq, .i gq, .i sq, .i mq, .i x] => some ⟨k, a, b, r, g, s, m, at_, kq, aq, bq, rq, gq, sq, mq, x⟩
  | _ => none
def d77 : Ft := ⟨[.agg [.int .i64, .int .u64, .int .i64, .int .i64, .int .i64, .int .i64, .int .u64], .int .u64, .agg [.int .i64, .int .u64, .int .i64, .int .i64, .int .i64, .int .i64, .int .u64], .int .u64], []⟩
noncomputable def f77_8 (v : V77) : (V49) := V49.mk v.k v.a v.b v.r v.g v.s v.m v.at_
noncomputable def f77_9 (v : V77) : (Int) := f49_4 (f77_8 v)
noncomputable def f77_10 (v : V77) : (Bool) := f77_9 v != (0 : Int)
noncomputable def f77_11 (v : V77) : (V49) := V49.mk v.kq v.aq v.bq v.rq v.gq v.sq v.mq v.x
noncomputable def f77_12 (v : V77) : (Int) := f49_4 (f77_11 v)
noncomputable def f77_13 (v : V77) : (Bool) := f77_12 v != (0 : Int)
noncomputable def f77_14 (v : V77) : (Int) := f49_3 (f77_11 v)
noncomputable def f77_15 (v : V77) : (Int) := IntKind.i64.wrap (f49_3 (f77_8 v) + f77_14 v)
noncomputable def f77_16 (v : V77) : (Bool) := decide (f77_15 v > (64 : Int))
noncomputable def f77_0 (v : V77) : (Prop) := f49_0 (f77_8 v)
noncomputable def f77_1 (v : V77) : (Prop) := f49_1 (f77_8 v)
noncomputable def f77_2 (v : V77) : (Prop) := f77_10 v = false → f49_0 (f77_11 v)
noncomputable def f77_3 (v : V77) : (Prop) := f77_10 v = false → f49_1 (f77_11 v)
noncomputable def f77_4 (v : V77) : (Prop) := f77_10 v = false → f77_13 v = false → f77_16 v = false → (0 : Int) ≤ f77_14 v
noncomputable def f77_5 (v : V77) : (Int) := cnd (f77_10 v) (0 : Int) (cnd (f77_13 v) (0 : Int) (cnd (f77_16 v) (0 : Int) (Go.bits Go.BinOp.or IntKind.u64 (IntKind.u64.wrap (f49_2 (f77_8 v) * (2 : Int) ^ Min.min (f77_14 v).toNat (64 : Nat))) (f49_2 (f77_11 v)))))
noncomputable def f77_6 (v : V77) : (Int) := cnd (f77_10 v) (0 : Int) (cnd (f77_13 v) (0 : Int) (cnd (f77_16 v) (0 : Int) (f77_15 v)))
noncomputable def f77_7 (v : V77) : (Int) := cnd (f77_10 v) (f77_9 v) (cnd (f77_13 v) (f77_12 v) (cnd (f77_16 v) (11 : Int) (0 : Int)))
noncomputable def ff77 (v : V77) : Tr (Fin th.R) := (Tr.need (f77_0 v) (Tr.need (f77_1 v) (Tr.need (f77_2 v) (Tr.need (f77_3 v) (Tr.need (f77_4 v) (Tr.leaf (SV.tup [SV.int .u64 (f77_5 v), SV.int .i64 (f77_6 v), SV.int .i64 (f77_7 v)], List.nil, List.nil)))))))
noncomputable def f77 (v : V77) : Tr (Fin th.R) := (Tr.need (f77_0 v) (Tr.need (f77_1 v) (Tr.need (f77_2 v) (Tr.need (f77_3 v) (Tr.need (f77_4 v) (Tr.leaf (SV.tup [SV.int .u64 (f77_5 v), SV.int .i64 (f77_6 v), SV.int .i64 (f77_7 v)], List.nil, [])))))))
noncomputable def C77 : CF th.R := fnC d77 ofV77 (f77 )
theorem q77 (v : V77) : (evFn th Try.prog (auto th Try.prog nice49 [] 20) (autoH [] [] [] [] : Hints th) 77) (A77 v) (H77 v) = some (ff77 v) := by kernel_rfl
theorem qg77 (v : V77) : ((ff77 v).map (setD [])).get = (f77 v).get := by kernel_rfl
theorem qd77 (v : V77) : allD 0 [] (ff77 v) = true := by kernel_rfl
theorem s77 : Sound Try.prog th 77 (C77 ) := fnC_sound (evFn_sound' (T := th) (P := Try.prog) (tbl := (auto th Try.prog nice49 [] 20)) (auto_sound (nice := nice49) (us := []) nok49 20) (H := (autoH [] [] [] [] : Hints th)) (k := 77) (fnLoops (LoopsOk_mem (fun _ => rfl) _ fun _ _ _ e => by cases e))) d77 A77 H77 toV77 (by kernel_rfl) (fun v => by kernel_rfl)
  (fun l v h => by
    unfold ofV77 at h
    split at h
    · cases h; rfl
    · cases h)
  [] (fun v => ⟨ff77 v, q77 v, id, qg77 v, qd77 v⟩)
noncomputable def nice77 : List (Nat × CF th.R) := (77, lift C77) :: nice49
theorem nok77 : NiceOk Try.prog th nice77 := ⟨lift_sound s77, nok49⟩
end Go.Sx.M

namespace Go.Sx.M
open Go Go.Sx Go.Proofs Go.RowKit
set_option maxRecDepth 100000
structure V15 where
  k : Int
  a : Int
  b : Int
  r : Int
  g : Int
  s : Int
  m : Int
  i : Int
  kq : Int
  aq : Int
  bq : Int
  rq : Int
  gq : Int
  sq : Int
  mq : Int
  n : Int
def A15 (v : V15) : List SV := [.agg [.int .i64 v.k, .int .u64 v.a, .int .i64 v.b, .int .i64 v.r, .int .i64 v.g, .int .i64 v.s, .int .u64 v.m], .int .i64 v.i, .agg [.int .i64 v.kq, .int .u64 v.aq, .int .i64 v.bq, .int .i64 v.rq, .int .i64 v.gq, .int .i64 v.sq, .int .u64 v.mq], .int .i64 v.n]
def H15 (v : V15) : List (HO th.R) := []
def toV15 (v : V15) : List (Vl th.R) := [.i v.k, .i v.a, .i v.b, .i v.r, .i v.g, .i v.s, .i v.m, .i v.i, .i v.kq, .i v.aq, .i v.bq, .i v.rq, .i v.gq, .i v.sq, .i v.mq, .i v.n]
def ofV15 : List (Vl th.R) → Option V15
  | [.i k, .i a, .i b, .i r, .i g, .i s, .i m, .i i, .i kq, .i aq, .i bq, .i rq, .i gq, .i sq, .i mq, .i n] => some ⟨k, a, b, r, g, s, m, i, kq, aq, bq, rq, gq, sq, mq, n⟩
  | _ => none
def d15 : Ft := ⟨[.agg [.int .i64, .int .u64, .int .i64, .int .i64, .int .i64, .int .i64, .int .u64], .int .i64, .agg [.int .i64, .int .u64, .int .i64, .int .i64, .int .i64, .int .i64, .int .u64], .int .i64], []⟩
noncomputable def f15_15 (v : V15) : (V51) := V51.mk v.k v.a v.b v.r v.g v.s v.m v.i
noncomputable def f15_16 (v : V15) : (V51) := V51.mk v.kq v.aq v.bq v.rq v.gq v.sq v.mq v.n
noncomputable def f15_17 (v : V15) : (Int) := f51_1 (f15_15 v)
noncomputable def f15_18 (v : V15) : (Bool) := cnd (cnd (f51_2 (f15_15 v) != (0 : Int)) true (f51_2 (f15_16 v) != (0 : Int))) true (f15_17 v == (0 : Int))
noncomputable def f15_19 (v : V15) : (Int) := f51_1 (f15_16 v)
noncomputable def f15_20 (v : V15) : (V77) := V77.mk v.k v.a v.b v.r v.g v.s v.m (f15_17 v) v.kq v.aq v.bq v.rq v.gq v.sq v.mq (f15_19 v)
noncomputable def f15_21 (v : V15) : (Int) := IntKind.i64.wrap (IntKind.i64.wrap (IntKind.i64.wrap (v.g + v.b) + v.gq) + v.bq)
noncomputable def f15_22 (v : V15) : (Bool) := decide (f15_21 v > (64 : Int))
noncomputable def f15_23 (v : V15) : (TS) := (opS (nds (ndf (fun (j : Nat) => f15_17 v) (fun (j : Nat) => v.kq) (fun (j : Nat) => v.aq) (fun (j : Nat) => v.bq) (fun (j : Nat) => v.rq) (fun (j : Nat) => v.gq) (fun (j : Nat) => v.sq) (fun (j : Nat) => v.mq) fun (u : Nat) => (0 : Int)) (1 : Nat))).fst
noncomputable def f15_24 (v : V15) : (Int) := (f15_23 v).f
noncomputable def f15_25 (v : V15) : (Int) := (f15_23 v).c
noncomputable def f15_26 (v : V15) : (Mem) := (f15_23 v).M
noncomputable def f15_27 (v : V15) : (Sl) := ld (f15_26 v) (f15_17 v)
noncomputable def f15_28 (v : V15) : (Bool) := cnd (ldE (f15_26 v) (f15_17 v) != (0 : Int)) true !((f15_27 v).k == v.kq && ((f15_27 v).a == v.aq && ((f15_27 v).b == v.bq && ((f15_27 v).r == v.rq && ((f15_27 v).g == v.gq && ((f15_27 v).s == v.sq && ((f15_27 v).m == v.mq && true)))))))
noncomputable def f15_29 (v : V15) : (Int) := f77_5 (f15_20 v)
noncomputable def f15_30 (v : V15) : (Int) := f77_6 (f15_20 v)
noncomputable def f15_31 (v : V15) : (Bool) := f77_7 (f15_20 v) == (0 : Int)
noncomputable def f15_32 (v : V15) : (Sl) := Sl.mk v.k v.a v.b v.r v.g v.s v.m (0 : Int) (0 : Int) (0 : Int)
noncomputable def f15_0 (v : V15) : (Prop) := pre35 V35.mk
noncomputable def f15_1 (v : V15) : (Prop) := false = false → f51_0 (f15_15 v)
noncomputable def f15_2 (v : V15) : (Prop) := false = false → f51_0 (f15_16 v)
noncomputable def f15_3 (v : V15) : (Prop) := false = false → f15_18 v = false → ∀ (i : Nat), scpL (0:Nat) (rowEl (1 : Nat) (8 : Nat) (setMany (List.map (fun (i : Nat) => [SV.int IntKind.u64 (0 : Int), SV.int IntKind.i64 (0 : Int), SV.int IntKind.u64 (0 : Int), SV.int IntKind.i64 (0 : Int), SV.int IntKind.i64 (0 : Int), SV.int IntKind.i64 (0 : Int), SV.int IntKind.i64 (0 : Int), SV.int IntKind.u64 (0 : Int)].getD (i % (8 : Nat)) Inhabited.default) (List.range (8 : Nat))) (0:Nat) (SV.agg (setMany (setMany [SV.int IntKind.u64 (0 : Int), SV.int IntKind.i64 (0 : Int), SV.int IntKind.u64 (0 : Int), SV.int IntKind.i64 (0 : Int), SV.int IntKind.i64 (0 : Int), SV.int IntKind.i64 (0 : Int), SV.int IntKind.i64 (0 : Int), SV.int IntKind.u64 (0 : Int)] (0:Nat) (SV.int IntKind.u64 (f15_17 v)).cells) (1 : Nat) (SV.agg (List.take (7 : Nat) (List.drop (0:Nat) (SV.agg [SV.int IntKind.i64 v.kq, SV.int IntKind.u64 v.aq, SV.int IntKind.i64 v.bq, SV.int IntKind.i64 v.rq, SV.int IntKind.i64 v.gq, SV.int IntKind.i64 v.sq, SV.int IntKind.u64 v.mq]).cells))).cells)).cells) i) = true
noncomputable def f15_4 (v : V15) : (Prop) := false = false → f15_18 v = false → ∀ (i : Nat), i < (1 : Nat) → rowEl (1 : Nat) (8 : Nat) (setMany (List.map (fun (i : Nat) => [SV.int IntKind.u64 (0 : Int), SV.int IntKind.i64 (0 : Int), SV.int IntKind.u64 (0 : Int), SV.int IntKind.i64 (0 : Int), SV.int IntKind.i64 (0 : Int), SV.int IntKind.i64 (0 : Int), SV.int IntKind.i64 (0 : Int), SV.int IntKind.u64 (0 : Int)].getD (i % (8 : Nat)) Inhabited.default) (List.range (8 : Nat))) (0:Nat) (SV.agg (setMany (setMany [SV.int IntKind.u64 (0 : Int), SV.int IntKind.i64 (0 : Int), SV.int IntKind.u64 (0 : Int), SV.int IntKind.i64 (0 : Int), SV.int IntKind.i64 (0 : Int), SV.int IntKind.i64 (0 : Int), SV.int IntKind.i64 (0 : Int), SV.int IntKind.u64 (0 : Int)] (0:Nat) (SV.int IntKind.u64 (f15_17 v)).cells) (1 : Nat) (SV.agg (List.take (7 : Nat) (List.drop (0:Nat) (SV.agg [SV.int IntKind.i64 v.kq, SV.int IntKind.u64 v.aq, SV.int IntKind.i64 v.bq, SV.int IntKind.i64 v.rq, SV.int IntKind.i64 v.gq, SV.int IntKind.i64 v.sq, SV.int IntKind.u64 v.mq]).cells))).cells)).cells) i = elC (rowEl (1 : Nat) (8 : Nat) (setMany (List.map (fun (i : Nat) => [SV.int IntKind.u64 (0 : Int), SV.int IntKind.i64 (0 : Int), SV.int IntKind.u64 (0 : Int), SV.int IntKind.i64 (0 : Int), SV.int IntKind.i64 (0 : Int), SV.int IntKind.i64 (0 : Int), SV.int IntKind.i64 (0 : Int), SV.int IntKind.u64 (0 : Int)].getD (i % (8 : Nat)) Inhabited.default) (List.range (8 : Nat))) (0:Nat) (SV.agg (setMany (setMany [SV.int IntKind.u64 (0 : Int), SV.int IntKind.i64 (0 : Int), SV.int IntKind.u64 (0 : Int), SV.int IntKind.i64 (0 : Int), SV.int IntKind.i64 (0 : Int), SV.int IntKind.i64 (0 : Int), SV.int IntKind.i64 (0 : Int), SV.int IntKind.u64 (0 : Int)] (0:Nat) (SV.int IntKind.u64 (f15_17 v)).cells) (1 : Nat) (SV.agg (List.take (7 : Nat) (List.drop (0:Nat) (SV.agg [SV.int IntKind.i64 v.kq, SV.int IntKind.u64 v.aq, SV.int IntKind.i64 v.bq, SV.int IntKind.i64 v.rq, SV.int IntKind.i64 v.gq, SV.int IntKind.i64 v.sq, SV.int IntKind.u64 v.mq]).cells))).cells)).cells)) (0:Nat) [Ck.int IntKind.u64, Ck.int IntKind.i64, Ck.int IntKind.u64, Ck.int IntKind.i64, Ck.int IntKind.i64, Ck.int IntKind.i64, Ck.int IntKind.i64, Ck.int IntKind.u64] i
noncomputable def f15_5 (v : V15) : (Prop) := false = false → f15_18 v = false → pre36r (V36r.mk (1 : Nat) (1 : Nat) (fun (j : Nat) => f15_17 v) (fun (j : Nat) => v.kq) (fun (j : Nat) => v.aq) (fun (j : Nat) => v.bq) (fun (j : Nat) => v.rq) (fun (j : Nat) => v.gq) (fun (j : Nat) => v.sq) fun (j : Nat) => v.mq)
noncomputable def f15_6 (v : V15) : (Prop) := false = false → f15_18 v = false → (∀ (i : Nat), scpL (0:Nat) (rowEl (1 : Nat) (8 : Nat) (setMany (List.map (fun (i : Nat) => [SV.int IntKind.u64 (0 : Int), SV.int IntKind.i64 (0 : Int), SV.int IntKind.u64 (0 : Int), SV.int IntKind.i64 (0 : Int), SV.int IntKind.i64 (0 : Int), SV.int IntKind.i64 (0 : Int), SV.int IntKind.i64 (0 : Int), SV.int IntKind.u64 (0 : Int)].getD (i % (8 : Nat)) Inhabited.default) (List.range (8 : Nat))) (0:Nat) (SV.agg (setMany (setMany [SV.int IntKind.u64 (0 : Int), SV.int IntKind.i64 (0 : Int), SV.int IntKind.u64 (0 : Int), SV.int IntKind.i64 (0 : Int), SV.int IntKind.i64 (0 : Int), SV.int IntKind.i64 (0 : Int), SV.int IntKind.i64 (0 : Int), SV.int IntKind.u64 (0 : Int)] (0:Nat) (SV.int IntKind.u64 (f15_17 v)).cells) (1 : Nat) (SV.agg (List.take (7 : Nat) (List.drop (0:Nat) (SV.agg [SV.int IntKind.i64 v.kq, SV.int IntKind.u64 v.aq, SV.int IntKind.i64 v.bq, SV.int IntKind.i64 v.rq, SV.int IntKind.i64 v.gq, SV.int IntKind.i64 v.sq, SV.int IntKind.u64 v.mq]).cells))).cells)).cells) i) = true) ∧ ∀ (i : Nat), scpL (0:Nat) ((fun (j : Nat) => ndC (gN (opS (nds (ndf (fun (j : Nat) => f15_17 v) (fun (j : Nat) => v.kq) (fun (j : Nat) => v.aq) (fun (j : Nat) => v.bq) (fun (j : Nat) => v.rq) (fun (j : Nat) => v.gq) (fun (j : Nat) => v.sq) (fun (j : Nat) => v.mq) fun (u : Nat) => (0 : Int)) (1 : Nat))).snd j)) i) = true
noncomputable def f15_7 (v : V15) : (Prop) := false = false → f15_18 v = false → false = false → f77_0 (f15_20 v)
noncomputable def f15_8 (v : V15) : (Prop) := false = false → f15_18 v = false → false = false → f77_1 (f15_20 v)
noncomputable def f15_9 (v : V15) : (Prop) := false = false → f15_18 v = false → false = false → f77_2 (f15_20 v)
noncomputable def f15_10 (v : V15) : (Prop) := false = false → f15_18 v = false → false = false → f77_3 (f15_20 v)
noncomputable def f15_11 (v : V15) : (Prop) := false = false → f15_18 v = false → false = false → f77_4 (f15_20 v)
noncomputable def f15_12 (v : V15) : (Prop) := false = false → f15_18 v = false → false = false → f15_22 v = false → pre67 (V67.mk (f15_17 v) (f15_24 v) (f15_25 v) (f15_26 v))
noncomputable def f15_13 (v : V15) : (Prop) := false = false → f15_18 v = false → false = false → f15_22 v = false → f15_28 v = false → pre40 (V40.mk v.k v.a v.b v.r v.g v.s v.m (f15_29 v) (f15_30 v) (f15_24 v) (f15_25 v) (f15_26 v))
noncomputable def f15_14 (v : V15) : (Bool) := cnd (f15_18 v) true (cnd (f15_22 v) (cnd (cnd (f77_7 (f15_20 v) == (11 : Int)) (f15_29 v == (0 : Int)) false) (f15_30 v == (0 : Int)) false) (cnd (f15_28 v) (f15_31 v) (cnd (cnd (f15_31 v) (fdE (f15_26 v) (f15_32 v) (f15_29 v) (f15_30 v) == (0 : Int)) false) (fdA (f15_26 v) (f15_32 v) (f15_29 v) (f15_30 v) == f15_19 v) false)))
theorem n_f15_3 (v : V15) : f15_3 v := by
  unfold f15_3
  first
    | (intros; rfl)
    | (intro i; rfl)
    | (intro i _; rfl)
    | (intro _ i; rfl)
    | (intro _ i _; rfl)
    | (refine ⟨?_, ?_⟩ <;> intro i <;> rfl)
    | (refine ⟨?_, ?_, ?_⟩ <;> intro i <;> rfl)
    | (refine ⟨?_, ?_⟩ <;> intro i _ <;> rfl)
    | (repeat' apply And.intro) <;> first | (intro i; rfl) | (intro i _; rfl) | (intro i h; exact absurd h (Nat.not_lt_zero i)) | (intro i; exact scpL_rowSet (by rfl) (by rfl)) | (intro i; exact scpL_rowEl (by kernel_rfl) _)
    | (intros; (repeat' apply And.intro) <;> intros <;> first | rfl | (exact absurd (by assumption) (Nat.not_lt_zero _)))
    | omega
    | decide
theorem n_f15_4 (v : V15) : f15_4 v := by
  unfold f15_4
  first
    | (intros; rfl)
    | (intro i; rfl)
    | (intro i _; rfl)
    | (intro _ i; rfl)
    | (intro _ i _; rfl)
    | (refine ⟨?_, ?_⟩ <;> intro i <;> rfl)
    | (refine ⟨?_, ?_, ?_⟩ <;> intro i <;> rfl)
    | (refine ⟨?_, ?_⟩ <;> intro i _ <;> rfl)
    | (repeat' apply And.intro) <;> first | (intro i; rfl) | (intro i _; rfl) | (intro i h; exact absurd h (Nat.not_lt_zero i)) | (intro i; exact scpL_rowSet (by rfl) (by rfl)) | (intro i; exact scpL_rowEl (by kernel_rfl) _)
    | (intros; (repeat' apply And.intro) <;> intros <;> first | rfl | (exact absurd (by assumption) (Nat.not_lt_zero _)))
    | omega
    | decide
theorem n_f15_6 (v : V15) : f15_6 v := by
  unfold f15_6
  first
    | (intros; rfl)
    | (intro i; rfl)
    | (intro i _; rfl)
    | (intro _ i; rfl)
    | (intro _ i _; rfl)
    | (refine ⟨?_, ?_⟩ <;> intro i <;> rfl)
    | (refine ⟨?_, ?_, ?_⟩ <;> intro i <;> rfl)
    | (refine ⟨?_, ?_⟩ <;> intro i _ <;> rfl)
    | (repeat' apply And.intro) <;> first | (intro i; rfl) | (intro i _; rfl) | (intro i h; exact absurd h (Nat.not_lt_zero i)) | (intro i; exact scpL_rowSet (by rfl) (by rfl)) | (intro i; exact scpL_rowEl (by kernel_rfl) _)
    | (intros; (repeat' apply And.intro) <;> intros <;> first | rfl | (exact absurd (by assumption) (Nat.not_lt_zero _)))
    | omega
    | decide
noncomputable def ff15 (v : V15) : Tr (Fin th.R) := (Tr.need (f15_0 v) (Tr.need (f15_1 v) (Tr.need (f15_2 v) (Tr.need (f15_3 v) (Tr.need (f15_4 v) (Tr.need (f15_5 v) (Tr.need (f15_6 v) (Tr.need (f15_7 v) (Tr.need (f15_8 v) (Tr.need (f15_9 v) (Tr.need (f15_10 v) (Tr.need (f15_11 v) (Tr.need (f15_12 v) (Tr.need (f15_13 v) (Tr.leaf (SV.bool (f15_14 v), List.nil, List.nil))))))))))))))))
noncomputable def f15 (v : V15) : Tr (Fin th.R) := (Tr.need (f15_0 v) (Tr.need (f15_1 v) (Tr.need (f15_2 v) (Tr.need (f15_5 v) (Tr.need (f15_7 v) (Tr.need (f15_8 v) (Tr.need (f15_9 v) (Tr.need (f15_10 v) (Tr.need (f15_11 v) (Tr.need (f15_12 v) (Tr.need (f15_13 v) (Tr.leaf (SV.bool (f15_14 v), List.nil, [])))))))))))))
noncomputable def C15 : CF th.R := fnC d15 ofV15 (f15 )
theorem q15 (v : V15) : (evFn th Try.prog (auto th Try.prog nice77 [] 20) (autoH [] [] [] [] : Hints th) 15) (A15 v) (H15 v) = some (ff15 v) := by kernel_rfl
theorem qg15 (v : V15) : ((ff15 v).map (setD [])).get = (f15 v).get := by kernel_rfl
theorem qd15 (v : V15) : allD 0 [] (ff15 v) = true := by kernel_rfl
theorem s15 : Sound Try.prog th 15 (C15 ) := fnC_sound (evFn_sound' (T := th) (P := Try.prog) (tbl := (auto th Try.prog nice77 [] 20)) (auto_sound (nice := nice77) (us := []) nok77 20) (H := (autoH [] [] [] [] : Hints th)) (k := 15) (fnLoops (LoopsOk_mem (fun _ => rfl) _ fun _ _ _ e => by cases e))) d15 A15 H15 toV15 (by kernel_rfl) (fun v => by kernel_rfl)
  (fun l v h => by
    unfold ofV15 at h
    split at h
    · cases h; rfl
    · cases h)
  [] (fun v => ⟨ff15 v, q15 v, fun h => by
    unfold f15 at h; unfold ff15
    simp only [Tr.ok, n_f15_3, n_f15_4, n_f15_6, true_and, and_true, forall_const, implies_true] at h ⊢
    try exact h, qg15 v, qd15 v⟩)
theorem qdd15 (v : V15) : (f15 v).get.2.2 = [] := by
  rw [← qg15, Tr.map_get]; rfl
end Go.Sx.M

namespace Go.Sx.M
open Go Go.Sx Go.Proofs Go.RowKit
set_option maxRecDepth 100000
structure V9 where
  k : Int
  a : Int
  b : Int
  r : Int
  g : Int
  s : Int
  m : Int
  x : Int
def A9 (v : V9) : List SV := [.agg [.int .i64 v.k, .int .u64 v.a, .int .i64 v.b, .int .i64 v.r, .int .i64 v.g, .int .i64 v.s, .int .u64 v.m], .int .u64 v.x]
def H9 (v : V9) : List (HO th.R) := []
def toV9 (v : V9) : List (Vl th.R) := [.i v.k, .i v.a, .i v.b, .i v.r, .i v.g, .i v.s, .i v.m, .i v.x]
def ofV9 : List (Vl th.R) → Option V9
  | [.i k, .i a, .i b, .i r, .i g, .i s, .i m, .i x] => some ⟨k, a, b, r, g, s, m, x⟩
  | _ => none
def d9 : Ft := ⟨[.agg [.int .i64, .int .u64, .int .i64, .int .i64, .int .i64, .int .i64, .int .u64], .int .u64], []⟩
noncomputable def f9_8 (v : V9) : (V49) := V49.mk v.k v.a v.b v.r v.g v.s v.m v.x
noncomputable def f9_9 (v : V9) : (Bool) := cnd (v.k != (2 : Int)) true !f50_2 v.k v.a v.b v.r v.g v.s v.m
noncomputable def f9_10 (v : V9) : (Bool) := v.x.tmod (32 : Int) != (0 : Int)
noncomputable def f9_11 (v : V9) : (Bool) := decide (v.x < v.a)
noncomputable def f9_12 (v : V9) : (Int) := IntKind.u64.wrap (v.x - v.a)
noncomputable def f9_13 (v : V9) : (Int) := IntKind.u64.wrap (p26 v.b.toNat * (32 : Int))
noncomputable def f9_14 (v : V9) : (Bool) := cnd (f9_11 v) true (decide (f9_12 v ≥ f9_13 v))
noncomputable def f9_15 (v : V9) : (Int) := f49_2 (f9_8 v)
noncomputable def f9_16 (v : V9) : (Int) := f49_3 (f9_8 v)
noncomputable def f9_17 (v : V9) : (Bool) := f9_15 v == (0 : Int)
noncomputable def f9_18 (v : V9) : (Sl) := Sl.mk v.k v.a v.b v.r v.g v.s v.m (0 : Int) (0 : Int) (0 : Int)
noncomputable def f9_0 (v : V9) : (Prop) := pre35 V35.mk
noncomputable def f9_1 (v : V9) : (Prop) := false = false → pre36z V36z.mk
noncomputable def f9_2 (v : V9) : (Prop) := false = false → false = false → f49_0 (f9_8 v)
noncomputable def f9_3 (v : V9) : (Prop) := false = false → false = false → f49_1 (f9_8 v)
noncomputable def f9_4 (v : V9) : (Prop) := false = false → false = false → f9_9 v = false → (32 : Int) ≠ (0 : Int)
noncomputable def f9_5 (v : V9) : (Prop) := false = false → false = false → f9_9 v = false → f9_10 v = false → cnd (!f9_11 v) true false = true → v.b ≤ (4611686018427387904 : Int)
noncomputable def f9_6 (v : V9) : (Prop) := false = false → false = false → f9_9 v = false → f9_10 v = false → f9_14 v = false → pre40 (V40.mk v.k v.a v.b v.r v.g v.s v.m (f9_15 v) (f9_16 v) (0 : Int) (0 : Int) op0.fst.M)
noncomputable def f9_7 (v : V9) : (Bool) := cnd (f9_9 v) (cnd (cnd (f49_4 (f9_8 v) == (20 : Int)) (f9_17 v) false) (f9_16 v == (0 : Int)) false) (cnd (f9_10 v) (cnd (f49_4 (f9_8 v) == (13 : Int)) (f9_17 v) false) (cnd (f9_14 v) (cnd (f49_4 (f9_8 v) == (12 : Int)) (f9_17 v) false) (cnd (cnd (cnd (f49_4 (f9_8 v) == (0 : Int)) (f9_16 v == IntKind.i64.wrap (v.g + v.b)) false) (fdE op0.fst.M (f9_18 v) (f9_15 v) (f9_16 v) == (0 : Int)) false) (fdA op0.fst.M (f9_18 v) (f9_15 v) (f9_16 v) == v.x) false)))
theorem n_f9_4 (v : V9) : f9_4 v := by
  unfold f9_4
  first
    | (intros; rfl)
    | (intro i; rfl)
    | (intro i _; rfl)
    | (intro _ i; rfl)
    | (intro _ i _; rfl)
    | (refine ⟨?_, ?_⟩ <;> intro i <;> rfl)
    | (refine ⟨?_, ?_, ?_⟩ <;> intro i <;> rfl)
    | (refine ⟨?_, ?_⟩ <;> intro i _ <;> rfl)
    | (repeat' apply And.intro) <;> first | (intro i; rfl) | (intro i _; rfl) | (intro i h; exact absurd h (Nat.not_lt_zero i)) | (intro i; exact scpL_rowSet (by rfl) (by rfl)) | (intro i; exact scpL_rowEl (by kernel_rfl) _)
    | (intros; (repeat' apply And.intro) <;> intros <;> first | rfl | (exact absurd (by assumption) (Nat.not_lt_zero _)))
    | omega
    | decide
noncomputable def ff9 (v : V9) : Tr (Fin th.R) := (Tr.need (f9_0 v) (Tr.need (f9_1 v) (Tr.need (f9_2 v) (Tr.need (f9_3 v) (Tr.need (f9_4 v) (Tr.need (f9_5 v) (Tr.need (f9_6 v) (Tr.leaf (SV.bool (f9_7 v), List.nil, List.nil)))))))))
noncomputable def f9 (v : V9) : Tr (Fin th.R) := (Tr.need (f9_0 v) (Tr.need (f9_1 v) (Tr.need (f9_2 v) (Tr.need (f9_3 v) (Tr.need (f9_5 v) (Tr.need (f9_6 v) (Tr.leaf (SV.bool (f9_7 v), List.nil, []))))))))
noncomputable def C9 : CF th.R := fnC d9 ofV9 (f9 )
theorem q9 (v : V9) : (evFn th Try.prog (auto th Try.prog nice77 [] 20) (autoH [] [] [] [] : Hints th) 9) (A9 v) (H9 v) = some (ff9 v) := by kernel_rfl
theorem qg9 (v : V9) : ((ff9 v).map (setD [])).get = (f9 v).get := by kernel_rfl
theorem qd9 (v : V9) : allD 0 [] (ff9 v) = true := by kernel_rfl
theorem s9 : Sound Try.prog th 9 (C9 ) := fnC_sound (evFn_sound' (T := th) (P := Try.prog) (tbl := (auto th Try.prog nice77 [] 20)) (auto_sound (nice := nice77) (us := []) nok77 20) (H := (autoH [] [] [] [] : Hints th)) (k := 9) (fnLoops (LoopsOk_mem (fun _ => rfl) _ fun _ _ _ e => by cases e))) d9 A9 H9 toV9 (by kernel_rfl) (fun v => by kernel_rfl)
  (fun l v h => by
    unfold ofV9 at h
    split at h
    · cases h; rfl
    · cases h)
  [] (fun v => ⟨ff9 v, q9 v, fun h => by
    unfold f9 at h; unfold ff9
    simp only [Tr.ok, n_f9_4, true_and, and_true, forall_const, implies_true] at h ⊢
    try exact h, qg9 v, qd9 v⟩)
end Go.Sx.M

namespace Go.Sx.M
open Go Go.Sx Go.Proofs Go.RowKit
set_option maxRecDepth 100000
structure V10 where
  k : Int
  a : Int
  b : Int
  r : Int
  g : Int
  s : Int
  m : Int
  n : Int
  x : Int
def A10 (v : V10) : List SV := [.agg [.int .i64 v.k, .int .u64 v.a, .int .i64 v.b, .int .i64 v.r, .int .i64 v.g, .int .i64 v.s, .int .u64 v.m], .int .i64 v.n, .int .u64 v.x]
def H10 (v : V10) : List (HO th.R) := []
def toV10 (v : V10) : List (Vl th.R) := [.i v.k, .i v.a, .i v.b, .i v.r, .i v.g, .i v.s, .i v.m, .i v.n, .i v.x]
def ofV10 : List (Vl th.R) → Option V10
  | [.i k, .i a, .i b, .i r, .i g, .i s, .i m, .i n, .i x] => some ⟨k, a, b, r, g, s, m, n, x⟩
  | _ => none
def d10 : Ft := ⟨[.agg [.int .i64, .int .u64, .int .i64, .int .i64, .int .i64, .int .i64, .int .u64], .int .i64, .int .u64], []⟩
noncomputable def f10_10 (v : V10) : (V51) := V51.mk v.k v.a v.b v.r v.g v.s v.m v.n
noncomputable def f10_11 (v : V10) : (Bool) := cnd (v.k != (2 : Int)) true !f50_2 v.k v.a v.b v.r v.g v.s v.m
noncomputable def f10_12 (v : V10) : (Bool) := decide (v.n < (0 : Int))
noncomputable def f10_13 (v : V10) : (Int) := (2 : Int) ^ Min.min v.b.toNat (64 : Nat)
noncomputable def f10_14 (v : V10) : (Int) := IntKind.i64.wrap ((1 : Int) * f10_13 v)
noncomputable def f10_15 (v : V10) : (Bool) := cnd (f10_12 v) true (decide (v.n ≥ f10_14 v))
noncomputable def f10_16 (v : V10) : (Int) := f51_2 (f10_10 v)
noncomputable def f10_17 (v : V10) : (Int) := f51_1 (f10_10 v)
noncomputable def f10_18 (v : V10) : (Bool) := cnd (f10_16 v != (0 : Int)) true (f10_17 v != IntKind.u64.wrap (v.a + IntKind.u64.wrap (IntKind.u64.wrap v.n * (32 : Int))))
noncomputable def f10_19 (v : V10) : (Int) := Go.bits Go.BinOp.or IntKind.u64 (IntKind.u64.wrap (v.m * f10_13 v)) (IntKind.u64.wrap v.n)
noncomputable def f10_20 (v : V10) : (Int) := IntKind.i64.wrap (v.g + v.b)
noncomputable def f10_21 (v : V10) : (Bool) := decide (f10_20 v < (64 : Int))
noncomputable def f10_22 (v : V10) : (Int) := IntKind.u64.wrap ((1 : Int) * (2 : Int) ^ Min.min (f10_20 v).toNat (64 : Nat))
noncomputable def f10_23 (v : V10) : (Bool) := f10_17 v == (0 : Int)
noncomputable def f10_24 (v : V10) : (Sl) := Sl.mk v.k v.a v.b v.r v.g v.s v.m (0 : Int) (0 : Int) (0 : Int)
noncomputable def f10_0 (v : V10) : (Prop) := pre35 V35.mk
noncomputable def f10_1 (v : V10) : (Prop) := false = false → pre36z V36z.mk
noncomputable def f10_2 (v : V10) : (Prop) := false = false → false = false → f51_0 (f10_10 v)
noncomputable def f10_3 (v : V10) : (Prop) := false = false → false = false → f10_11 v = false → cnd (!f10_12 v) true false = true → (0 : Int) ≤ v.b
noncomputable def f10_4 (v : V10) : (Prop) := false = false → false = false → f10_11 v = false → f10_15 v = false → f10_18 v = false → (0 : Int) ≤ v.b
noncomputable def f10_5 (v : V10) : (Prop) := false = false → false = false → f10_11 v = false → f10_15 v = false → f10_18 v = false → pre40 (V40.mk v.k v.a v.b v.r v.g v.s v.m (f10_19 v) (f10_20 v) (0 : Int) (0 : Int) op0.fst.M)
noncomputable def f10_6 (v : V10) : (Prop) := false = false → false = false → f10_11 v = false → f10_15 v = false → f10_18 v = false → pre40 (V40.mk v.k v.a v.b v.r v.g v.s v.m v.x (f10_20 v) (0 : Int) (0 : Int) op0.fst.M)
noncomputable def f10_7 (v : V10) : (Prop) := false = false → false = false → f10_11 v = false → f10_15 v = false → f10_18 v = false → f10_21 v = true → (0 : Int) ≤ f10_20 v
noncomputable def f10_8 (v : V10) : (Prop) := false = false → false = false → f10_11 v = false → f10_15 v = false → f10_18 v = false → f10_21 v = true → f10_22 v ≠ (0 : Int)
noncomputable def f10_9 (v : V10) : (Bool) := cnd (f10_11 v) (cnd (f10_16 v == (20 : Int)) (f10_23 v) false) (cnd (f10_15 v) (cnd (f10_16 v == (12 : Int)) (f10_23 v) false) (cnd (f10_18 v) false (cnd (cnd (fdE op0.fst.M (f10_24 v) (f10_19 v) (f10_20 v) == (0 : Int)) (fdA op0.fst.M (f10_24 v) (f10_19 v) (f10_20 v) == f10_17 v) false) (cnd (fdE op0.fst.M (f10_24 v) v.x (f10_20 v) == (0 : Int)) (fdA op0.fst.M (f10_24 v) v.x (f10_20 v) == f10_17 v) false == (cnd (f10_21 v) (v.x.tmod (f10_22 v)) v.x == f10_19 v)) false)))
noncomputable def ff10 (v : V10) : Tr (Fin th.R) := (Tr.need (f10_0 v) (Tr.need (f10_1 v) (Tr.need (f10_2 v) (Tr.need (f10_3 v) (Tr.need (f10_4 v) (Tr.need (f10_5 v) (Tr.need (f10_6 v) (Tr.need (f10_7 v) (Tr.need (f10_8 v) (Tr.leaf (SV.bool (f10_9 v), List.nil, List.nil)))))))))))
noncomputable def f10 (v : V10) : Tr (Fin th.R) := (Tr.need (f10_0 v) (Tr.need (f10_1 v) (Tr.need (f10_2 v) (Tr.need (f10_3 v) (Tr.need (f10_4 v) (Tr.need (f10_5 v) (Tr.need (f10_6 v) (Tr.need (f10_7 v) (Tr.need (f10_8 v) (Tr.leaf (SV.bool (f10_9 v), List.nil, [])))))))))))
noncomputable def C10 : CF th.R := fnC d10 ofV10 (f10 )
theorem q10 (v : V10) : (evFn th Try.prog (auto th Try.prog nice77 [] 20) (autoH [] [] [] [] : Hints th) 10) (A10 v) (H10 v) = some (ff10 v) := by kernel_rfl
theorem qg10 (v : V10) : ((ff10 v).map (setD [])).get = (f10 v).get := by kernel_rfl
theorem qd10 (v : V10) : allD 0 [] (ff10 v) = true := by kernel_rfl
theorem s10 : Sound Try.prog th 10 (C10 ) := fnC_sound (evFn_sound' (T := th) (P := Try.prog) (tbl := (auto th Try.prog nice77 [] 20)) (auto_sound (nice := nice77) (us := []) nok77 20) (H := (autoH [] [] [] [] : Hints th)) (k := 10) (fnLoops (LoopsOk_mem (fun _ => rfl) _ fun _ _ _ e => by cases e))) d10 A10 H10 toV10 (by kernel_rfl) (fun v => by kernel_rfl)
  (fun l v h => by
    unfold ofV10 at h
    split at h
    · cases h; rfl
    · cases h)
  [] (fun v => ⟨ff10 v, q10 v, id, qg10 v, qd10 v⟩)
end Go.Sx.M

namespace Go.Sx.M
open Go Go.Sx Go.Proofs Go.RowKit
end Go.Sx.M

namespace Go.Sx.M
open Go Go.Sx
/-- What four words say, unasked. -/
def rawS (w0 w1 w2 w3 : Int) : Sl := ⟨IntKind.i64.wrap (f102_1 0 4 w0), IntKind.u64.wrap (f102_1 35 27 w0 * 32), IntKind.i64.wrap (f102_1 4 6 w0), IntKind.i64.wrap (f102_1 10 3 w0), IntKind.i64.wrap (f102_1 13 6 w0), IntKind.i64.wrap (f102_1 19 16 w0), w1,
  IntKind.u64.wrap (f102_1 0 27 w2 * 32), IntKind.u64.wrap (f102_1 32 27 w2 * 32), cnd (decide (w3 ≤ 4096)) (IntKind.i64.wrap w3) 0⟩
/-- They are a slot's. -/
def okW (w0 w1 w2 w3 : Int) : Prop := rightS (rawS w0 w1 w2 w3) = true ∧ wd0 (rawS w0 w1 w2 w3) = w0 ∧ wd1 (rawS w0 w1 w2 w3) = w1 ∧ wd2 (rawS w0 w1 w2 w3) = w2 ∧ wd3 (rawS w0 w1 w2 w3) = w3
theorem rightS_rgt {z : Sl} (h : rightS z = true) : rgt z = true := by
  unfold rightS f34_0 at h
  unfold rgt
  cases hh : f45_1 z.k z.a z.b z.r z.g z.s z.m with
  | true => rfl
  | false => rw [hh] at h; simp [cnd] at h
theorem read_ok {w0 w1 w2 w3 : Int} (hr : rgt (rawS w0 w1 w2 w3) = true) (h0 : wd0 (rawS w0 w1 w2 w3) = w0) : f100_10 w0 w1 = 0 ∧ f100_3 w0 w1 = (rawS w0 w1 w2 w3).k ∧ f100_4 w0 w1 = (rawS w0 w1 w2 w3).a ∧ f100_5 w0 w1 = (rawS w0 w1 w2 w3).b ∧
    f100_6 w0 w1 = (rawS w0 w1 w2 w3).r ∧ f100_7 w0 w1 = (rawS w0 w1 w2 w3).g ∧ f100_8 w0 w1 = (rawS w0 w1 w2 w3).s ∧ f100_9 w0 w1 = (rawS w0 w1 w2 w3).m := by
  have hr : f45_1 (IntKind.i64.wrap (f102_1 0 4 w0)) (IntKind.u64.wrap (f102_1 35 27 w0 * 32)) (IntKind.i64.wrap (f102_1 4 6 w0)) (IntKind.i64.wrap (f102_1 10 3 w0)) (IntKind.i64.wrap (f102_1 13 6 w0)) (IntKind.i64.wrap (f102_1 19 16 w0)) w1 = true := hr
  have h0 : f164_14 (IntKind.i64.wrap (f102_1 0 4 w0)) (IntKind.u64.wrap (f102_1 35 27 w0 * 32)) (IntKind.i64.wrap (f102_1 4 6 w0)) (IntKind.i64.wrap (f102_1 10 3 w0)) (IntKind.i64.wrap (f102_1 13 6 w0)) (IntKind.i64.wrap (f102_1 19 16 w0)) w1 = w0 := h0
  have h2 := (words_at hr).2
  simp only [f100_3, f100_4, f100_5, f100_6, f100_7, f100_8, f100_9, f100_10, h2, h0]
  simp [cnd, rawS]
theorem read_bad {w0 w1 w2 w3 : Int} (h : ¬ (rgt (rawS w0 w1 w2 w3) = true ∧ wd0 (rawS w0 w1 w2 w3) = w0)) : f100_10 w0 w1 = 10 := by
  simp only [f100_10]
  cases hr : f45_1 (IntKind.i64.wrap (f102_1 0 4 w0)) (IntKind.u64.wrap (f102_1 35 27 w0 * 32)) (IntKind.i64.wrap (f102_1 4 6 w0)) (IntKind.i64.wrap (f102_1 10 3 w0)) (IntKind.i64.wrap (f102_1 13 6 w0)) (IntKind.i64.wrap (f102_1 19 16 w0)) w1 with
  | false => rw [(words_no hr).2.2]; rfl
  | true =>
    rw [(words_at hr).2]
    have : f164_14 (IntKind.i64.wrap (f102_1 0 4 w0)) (IntKind.u64.wrap (f102_1 35 27 w0 * 32)) (IntKind.i64.wrap (f102_1 4 6 w0)) (IntKind.i64.wrap (f102_1 10 3 w0)) (IntKind.i64.wrap (f102_1 13 6 w0)) (IntKind.i64.wrap (f102_1 19 16 w0)) w1 ≠ w0 := fun e => h ⟨hr, e⟩
    rw [bne_iff_ne.2 this]
    rfl
/-- What is loaded from where a slot may lie. -/
theorem ld_raw {M : Mem} {a : Int} (he : f99_0 ⟨a, M⟩ = 0) {w0 w1 w2 w3 : Int} (e0 : M.W (IntKind.u64.wrap (a + 0)) = w0) (e1 : M.W (IntKind.u64.wrap (a + 8)) = w1) (e2 : M.W (IntKind.u64.wrap (a + 16)) = w2) (e3 : M.W (IntKind.u64.wrap (a + 24)) = w3) :
    (okW w0 w1 w2 w3 → ld M a = rawS w0 w1 w2 w3 ∧ ldE M a = 0) ∧ (¬ okW w0 w1 w2 w3 → ld M a = sl0 ∧ ldE M a = 10) := by
  have q0 : f29_30 ⟨a, M⟩ = w0 := e0
  have q1 : f29_31 ⟨a, M⟩ = w1 := e1
  have q2 : f29_32 ⟨a, M⟩ = w2 := e2
  have q3 : f29_33 ⟨a, M⟩ = w3 := e3
  have r0 : f29_36 ⟨a, M⟩ = w0 := e0
  have r1 : f29_37 ⟨a, M⟩ = w1 := e1
  have r2 : f29_52 ⟨a, M⟩ = w2 := e2
  have r3 : f29_34 ⟨a, M⟩ = w3 := e3
  have hd : f29_25 ⟨a, M⟩ = false := by simp [f29_25, he]
  have c35 : f29_35 ⟨a, M⟩ = decide (w3 ≤ 4096) := by simp only [f29_35, r3]
  have d0 : f29_57 ⟨a, M⟩ = (rawS w0 w1 w2 w3).d := by simp only [f29_57, c35, r3, rawS]
  have d1 : f29_54 ⟨a, M⟩ = (rawS w0 w1 w2 w3).x := by simp only [f29_54, cnd_same, f29_53, r2, rawS]
  have d2 : f29_56 ⟨a, M⟩ = (rawS w0 w1 w2 w3).p := by simp only [f29_56, cnd_same, f29_55, r2, rawS]
  simp only [ld, ldE, f29_14, f29_15, f29_16, f29_17, f29_18, f29_19, f29_20, f29_21, f29_22, f29_23, f29_24, hd, d0, d1, d2, f29_39, f29_41, f29_43, f29_45, f29_47, f29_49, f29_51, cnd_same, f29_38, f29_40, f29_42, f29_44, f29_46, f29_48, f29_50, r0, r1, q0, q1, q2, q3]
  by_cases hg : rgt (rawS w0 w1 w2 w3) = true ∧ wd0 (rawS w0 w1 w2 w3) = w0
  · obtain ⟨g1, g2, g3, g4, g5, g6, g7, g8⟩ := read_ok hg.1 hg.2
    rw [g1, g2, g3, g4, g5, g6, g7, g8]
    unfold okW rightS wd0 wd1 wd2 wd3
    generalize rawS w0 w1 w2 w3 = z
    constructor
    · rintro ⟨k1, k2, k3, k4, k5⟩
      rw [k1, k2, k3, k4, k5]
      simp [cnd]
    · intro hn
      have hbad : cnd (cnd ((0 : Int) != 0) true (!f34_0 z.k z.a z.b z.r z.g z.s z.m z.x z.p z.d)) true (!(f104_2 z.k z.a z.b z.r z.g z.s z.m z.x z.p z.d == w0 && (f104_3 z.k z.a z.b z.r z.g z.s z.m z.x z.p z.d == w1 &&
            (f104_4 z.k z.a z.b z.r z.g z.s z.m z.x z.p z.d == w2 && (f104_5 z.k z.a z.b z.r z.g z.s z.m z.x z.p z.d == w3 && true))))) = true := by
        cases hc : cnd _ true _ with
        | true => rfl
        | false =>
          refine absurd ?_ hn
          revert hc
          cases f34_0 z.k z.a z.b z.r z.g z.s z.m z.x z.p z.d <;> simp [cnd]
      rw [hbad]
      exact ⟨rfl, rfl⟩
  · have hb := read_bad hg
    rw [hb]
    constructor
    · intro hk
      exact absurd ⟨rightS_rgt hk.1, hk.2.1⟩ hg
    · intro _
      exact ⟨rfl, rfl⟩
end Go.Sx.M

namespace Go.Sx.M
open Go Go.Sx
theorem ld_bad {M : Mem} {a : Int} (he : f99_0 ⟨a, M⟩ ≠ 0) : ld M a = sl0 ∧ ldE M a = f99_0 ⟨a, M⟩ := by
  have hd : f29_25 ⟨a, M⟩ = true := by simp [f29_25, he]
  simp only [ld, ldE, f29_14, f29_15, f29_16, f29_17, f29_18, f29_19, f29_20, f29_21, f29_22, f29_23, f29_24, hd]
  exact ⟨rfl, rfl⟩
/-- Why a slot may not lie there. -/
def errS (n a : Int) : Int := if a % 32 = 0 then if n ≤ a then 12 else 0 else 13
theorem errS_eq {M : Mem} {a : Int} (h : U64 a) : f99_0 ⟨a, M⟩ = errS M.size a := by
  have e : f125_0 a 5 = decide (a % 32 = 0) := by
    have := aligned_eq (a := a) (n := 5) h.1 h.2 (by omega) (by omega)
    rw [this]
    have : p26 (Int.toNat 5) = 32 := by decide +kernel
    rw [this]
    by_cases hh : a % 32 = 0 <;> simp [hh]
  have e2 : szM M = M.size := rfl
  simp only [f99_0, e, e2, errS]
  by_cases h1 : a % 32 = 0
  · by_cases h2 : M.size ≤ a <;> simp [cnd, h1, h2]
  · simp [cnd, h1]
theorem errS_ok {n a : Int} (h : errS n a = 0) : a % 32 = 0 ∧ a < n := by
  unfold errS at h
  split at h
  · split at h
    · omega
    · omega
  · omega
theorem errS_mk {n a : Int} (h1 : a % 32 = 0) (h2 : a < n) : errS n a = 0 := by
  unfold errS; rw [if_pos h1, if_neg (by omega)]
theorem wr_same {M : Mem} {a x : Int} (h : errI M.size a = 0) : (wrM M a x).W a = x := by
  show cnd (decide (errI M.size a = 0)) (upd M.W a x) M.W a = x
  rw [decide_eq_true h]; exact upd_same ..
theorem wr_other {M : Mem} {a x i : Int} (h : i ≠ a) : (wrM M a x).W i = M.W i := by
  show cnd (decide (errI M.size a = 0)) (upd M.W a x) M.W i = M.W i
  cases decide (errI M.size a = 0)
  · rfl
  · exact upd_other h
/-- Four words, one behind the other. -/
theorem four {M : Mem} {a w0 w1 w2 w3 : Int} (h0 : 0 ≤ a) (h1 : a % 32 = 0) (h2 : a < M.size) (h3 : M.size % 32 = 0) (h4 : M.size ≤ 4294967296) :
    let N := wrM (wrM (wrM (wrM M (IntKind.u64.wrap (a + 0)) w0) (IntKind.u64.wrap (a + 8)) w1) (IntKind.u64.wrap (a + 16)) w2) (IntKind.u64.wrap (a + 24)) w3
    N.W a = w0 ∧ N.W (a + 8) = w1 ∧ N.W (a + 16) = w2 ∧ N.W (a + 24) = w3 ∧ ∀ i, i ≠ a → i ≠ a + 8 → i ≠ a + 16 → i ≠ a + 24 → N.W i = M.W i := by
  intro N
  have e0 : IntKind.u64.wrap (a + 0) = a := by rw [wrap_u64_id (by omega) (by omega)]; omega
  have e8 : IntKind.u64.wrap (a + 8) = a + 8 := wrap_u64_id (by omega) (by omega)
  have e16 : IntKind.u64.wrap (a + 16) = a + 16 := wrap_u64_id (by omega) (by omega)
  have e24 : IntKind.u64.wrap (a + 24) = a + 24 := wrap_u64_id (by omega) (by omega)
  have k0 : errI M.size a = 0 := errI_ok (by omega) (by omega)
  have k8 : errI M.size (a + 8) = 0 := errI_ok (by omega) (by omega)
  have k16 : errI M.size (a + 16) = 0 := errI_ok (by omega) (by omega)
  have k24 : errI M.size (a + 24) = 0 := errI_ok (by omega) (by omega)
  have hN : N = wrM (wrM (wrM (wrM M a w0) (a + 8) w1) (a + 16) w2) (a + 24) w3 := by show wrM _ _ _ = _; rw [e0, e8, e16, e24]
  rw [hN]
  refine ⟨?_, ?_, ?_, ?_, fun i i0 i1 i2 i3 => ?_⟩
  · rw [wr_other (by omega), wr_other (by omega), wr_other (by omega)]; exact wr_same k0
  · rw [wr_other (by omega), wr_other (by omega)]; exact wr_same k8
  · rw [wr_other (by omega)]; exact wr_same k16
  · exact wr_same k24
  · rw [wr_other i3, wr_other i2, wr_other i1, wr_other i0]
end Go.Sx.M

namespace Go.Sx.M
open Go Go.Sx
/-- The words of a slot are read as it was. -/
theorem raw_wd {z : Sl} (h : SlR z) (hs : rightS z = true) : rawS (wd0 z) (wd1 z) (wd2 z) (wd3 z) = z := by
  obtain ⟨hr, ⟨x1, x2⟩, ⟨p1, p2⟩, d1, d2⟩ := (rightS_iff h).1 hs
  have hr2 := rgt2 h hr
  have e3 : wd3 z = z.d := by
    have : wd3 z = IntKind.u64.wrap z.d := rfl
    rw [this, wrap_u64_id (by omega) (by omega)]
  have x0 := h.x.1
  have p0 := h.p.1
  obtain ⟨x, hx⟩ : ∃ n : Nat, z.x / 32 = n := ⟨(z.x / 32).toNat, by omega⟩
  obtain ⟨q, hq⟩ : ∃ n : Nat, z.p / 32 = n := ⟨(z.p / 32).toNat, by omega⟩
  have e2 : wd2 z = ((x + q * 4294967296 : Nat) : Int) := by rw [wd2_eq h x1 p1, hx, hq]; simp
  obtain ⟨l1, l2⟩ := links_back (x := x) (q := q) (by omega) (by omega)
  have hr' : f45_1 z.k z.a z.b z.r z.g z.s z.m = true := hr
  obtain ⟨w1, w2⟩ := word_right h.a.1 h.a.2 hr2 hr'
  obtain ⟨hk, hb, hrr, hg, hss, hal, hmod⟩ := right_ranges h.a.1 h.a.2 hr2 hr'
  obtain ⟨m1, m2⟩ := words_at hr'
  have ha := h.a.1
  obtain ⟨g1, g2, g3, g4, g5, g6⟩ := word_get (k := z.k.toNat) (b := z.b.toNat) (r := z.r.toNat) (g := z.g.toNat) (s := z.s.toNat) (q := (z.a / 32).toNat) (by omega) (by omega) (by omega) (by omega) (by omega) (by omega)
  have c1 : IntKind.i64.wrap ((z.k.toNat : Nat) : Int) = z.k := by rw [wrap_i64 (by omega) (by omega)]; omega
  have c2 : IntKind.i64.wrap ((z.b.toNat : Nat) : Int) = z.b := by rw [wrap_i64 (by omega) (by omega)]; omega
  have c3 : IntKind.i64.wrap ((z.r.toNat : Nat) : Int) = z.r := by rw [wrap_i64 (by omega) (by omega)]; omega
  have c4 : IntKind.i64.wrap ((z.g.toNat : Nat) : Int) = z.g := by rw [wrap_i64 (by omega) (by omega)]; omega
  have c5 : IntKind.i64.wrap ((z.s.toNat : Nat) : Int) = z.s := by rw [wrap_i64 (by omega) (by omega)]; omega
  have c6 : IntKind.u64.wrap ((((z.a / 32).toNat : Nat) : Int) * 32) = z.a := by rw [wrap_u64_id (by omega) (by omega)]; omega
  have c7 : IntKind.u64.wrap (((x : Nat) : Int) * 32) = z.x := by rw [wrap_u64_id (by omega) (by omega)]; omega
  have c8 : IntKind.u64.wrap (((q : Nat) : Int) * 32) = z.p := by rw [wrap_u64_id (by omega) (by omega)]; omega
  have e0 : wd0 z = wordN z.k.toNat z.b.toNat z.r.toNat z.g.toNat z.s.toNat (z.a / 32).toNat := w1
  have e1 := wd1_eq hr
  have d3 : IntKind.i64.wrap z.d = z.d := wrap_i64 (by omega) (by omega)
  rw [e0, e1, e2, e3]
  simp only [rawS, g1, g2, g3, g4, g5, g6, l1, l2, c1, c2, c3, c4, c5, c6, c7, c8, d3, decide_eq_true d2, cnd]
theorem okW_wd {z : Sl} (h : SlR z) (hs : rightS z = true) : okW (wd0 z) (wd1 z) (wd2 z) (wd3 z) := by
  unfold okW
  rw [raw_wd h hs]
  exact ⟨hs, rfl, rfl, rfl, rfl⟩
/-- Where a slot may lie. -/
def slOK (n a : Int) : Prop := 0 ≤ a ∧ a % 32 = 0 ∧ a < n
/-- A memory that is one slot behind the other. -/
structure Enc (M : Mem) (σ : Int → Sl) : Prop where
  s0 : M.size % 32 = 0
  s1 : 0 < M.size
  s2 : M.size ≤ 4294967296
  ok : ∀ a, slOK M.size a → SlR (σ a) ∧ rightS (σ a) = true
  w : ∀ a, slOK M.size a → M.W a = wd0 (σ a) ∧ M.W (a + 8) = wd1 (σ a) ∧ M.W (a + 16) = wd2 (σ a) ∧ M.W (a + 24) = wd3 (σ a)
def setA (σ : Int → Sl) (a : Int) (z : Sl) : Int → Sl := fun i => if i = a then z else σ i
theorem setA_same {σ : Int → Sl} {a : Int} {z : Sl} : setA σ a z a = z := if_pos rfl
theorem setA_other {σ : Int → Sl} {a i : Int} {z : Sl} (h : i ≠ a) : setA σ a z i = σ i := if_neg h
theorem Enc.ld {M : Mem} {σ : Int → Sl} (E : Enc M σ) {a : Int} (h : slOK M.size a) : ld M a = σ a ∧ ldE M a = 0 := by
  obtain ⟨h0, h1, h2⟩ := h
  have hn := E.s2
  have e0 : IntKind.u64.wrap (a + 0) = a := by rw [wrap_u64_id (by omega) (by omega)]; omega
  have e8 : IntKind.u64.wrap (a + 8) = a + 8 := wrap_u64_id (by omega) (by omega)
  have e16 : IntKind.u64.wrap (a + 16) = a + 16 := wrap_u64_id (by omega) (by omega)
  have e24 : IntKind.u64.wrap (a + 24) = a + 24 := wrap_u64_id (by omega) (by omega)
  obtain ⟨k1, k2⟩ := E.ok a ⟨h0, h1, h2⟩
  obtain ⟨w0, w1, w2, w3⟩ := E.w a ⟨h0, h1, h2⟩
  have he : f99_0 ⟨a, M⟩ = 0 := by rw [errS_eq ⟨h0, by omega⟩]; exact errS_mk h1 h2
  obtain ⟨g1, g2⟩ := (ld_raw he (by rw [e0]; exact w0) (by rw [e8]; exact w1) (by rw [e16]; exact w2) (by rw [e24]; exact w3)).1 (okW_wd k1 k2)
  rw [raw_wd k1 k2] at g1
  exact ⟨g1, g2⟩
theorem ld_not {M : Mem} {a : Int} (hu : U64 a) (h : ¬ slOK M.size a) : ld M a = sl0 ∧ ldE M a = errS M.size a ∧ errS M.size a ≠ 0 := by
  have he : f99_0 ⟨a, M⟩ = errS M.size a := errS_eq hu
  have hne : errS M.size a ≠ 0 := by
    intro e
    obtain ⟨a1, a2⟩ := errS_ok e
    exact h ⟨hu.1, a1, a2⟩
  obtain ⟨b1, b2⟩ := ld_bad (M := M) (a := a) (by rw [he]; exact hne)
  exact ⟨b1, by rw [b2, he], hne⟩
theorem stE_any {M : Mem} {a : Int} {z : Sl} : stE M a z = cnd (f99_0 ⟨a, M⟩ != 0) (f99_0 ⟨a, M⟩) (cnd (!rightS z) 10 0) := rfl
theorem Enc.st {M : Mem} {σ : Int → Sl} (E : Enc M σ) {a : Int} {z : Sl} (h : slOK M.size a) (hz : SlR z) (hr : rightS z = true) : Enc (stM M a z) (setA σ a z) ∧ stE M a z = 0 ∧ (stM M a z).size = M.size := by
  obtain ⟨h0, h1, h2⟩ := h
  have hn := E.s2
  have he : f99_0 ⟨a, M⟩ = 0 := by rw [errS_eq ⟨h0, by omega⟩]; exact errS_mk h1 h2
  have hr' : f34_0 z.k z.a z.b z.r z.g z.s z.m z.x z.p z.d = true := hr
  have k10 : f91_10 ⟨a, z.k, z.a, z.b, z.r, z.g, z.s, z.m, z.x, z.p, z.d, M⟩ = false := by simp [f91_10, he]
  have k11 : f91_11 ⟨a, z.k, z.a, z.b, z.r, z.g, z.s, z.m, z.x, z.p, z.d, M⟩ = false := by simp [f91_11, hr']
  have hN : stM M a z = wrM (wrM (wrM (wrM M (IntKind.u64.wrap (a + 0)) (wd0 z)) (IntKind.u64.wrap (a + 8)) (wd1 z)) (IntKind.u64.wrap (a + 16)) (wd2 z)) (IntKind.u64.wrap (a + 24)) (wd3 z) := by
    show mrgM (f91_10 _) M (mrgM (f91_11 _) M _) = _
    rw [k10, k11]
    rfl
  obtain ⟨f0, f8, f16, f24, fo⟩ := four (M := M) (a := a) (w0 := wd0 z) (w1 := wd1 z) (w2 := wd2 z) (w3 := wd3 z) h0 h1 h2 E.s0 hn
  rw [← hN] at f0 f8 f16 f24 fo
  have hsz : (stM M a z).size = M.size := by rw [hN]; rfl
  refine ⟨⟨by rw [hsz]; exact E.s0, by rw [hsz]; exact E.s1, by rw [hsz]; exact hn, ?_, ?_⟩, ?_, hsz⟩
  · intro i hi
    rw [hsz] at hi
    by_cases e : i = a
    · subst e; rw [setA_same]; exact ⟨hz, hr⟩
    · rw [setA_other e]; exact E.ok i hi
  · intro i hi
    rw [hsz] at hi
    by_cases e : i = a
    · subst e; rw [setA_same]; exact ⟨f0, f8, f16, f24⟩
    · rw [setA_other e]
      obtain ⟨i0, i1, i2⟩ := hi
      obtain ⟨w0, w1, w2, w3⟩ := E.w i ⟨i0, i1, i2⟩
      refine ⟨?_, ?_, ?_, ?_⟩
      · rw [fo _ (by omega) (by omega) (by omega) (by omega)]; exact w0
      · rw [fo _ (by omega) (by omega) (by omega) (by omega)]; exact w1
      · rw [fo _ (by omega) (by omega) (by omega) (by omega)]; exact w2
      · rw [fo _ (by omega) (by omega) (by omega) (by omega)]; exact w3
  · rw [stE_any, he, hr]; rfl
theorem sl0_right : rightS sl0 = true := by decide +kernel
theorem Enc.new {n : Int} (h0 : n % 32 = 0) (h1 : 0 < n) (h2 : n ≤ 4294967296) : Enc (newM n) (fun _ => sl0) := by
  have e0 : wd0 sl0 = 0 := by decide +kernel
  have e1 : wd1 sl0 = 0 := by decide +kernel
  have e2 : wd2 sl0 = 0 := by decide +kernel
  have e3 : wd3 sl0 = 0 := by decide +kernel
  refine ⟨h0, h1, h2, fun a _ => ⟨sl0_R, sl0_right⟩, fun a _ => ?_⟩
  rw [e0, e1, e2, e3]
  exact ⟨rfl, rfl, rfl, rfl⟩
/-- A link that may stand in a slot. -/
def lnk (y : Int) : Prop := 0 ≤ y ∧ y < 4294967296 ∧ y % 32 = 0
theorem right_x {z : Sl} (h : SlR z) (hr : rightS z = true) {y : Int} (hy : lnk y) : SlR { z with x := y } ∧ rightS { z with x := y } = true := by
  have h2 : SlR { z with x := y } := h.setX ⟨hy.1, by have := hy.2.1; omega⟩
  obtain ⟨q1, q2, q3, q4⟩ := (rightS_iff h).1 hr
  exact ⟨h2, (rightS_iff h2).2 ⟨q1, ⟨hy.2.1, hy.2.2⟩, q3, q4⟩⟩
theorem right_p {z : Sl} (h : SlR z) (hr : rightS z = true) {y : Int} (hy : lnk y) : SlR { z with p := y } ∧ rightS { z with p := y } = true := by
  have h2 : SlR { z with p := y } := h.setP ⟨hy.1, by have := hy.2.1; omega⟩
  obtain ⟨q1, q2, q3, q4⟩ := (rightS_iff h).1 hr
  exact ⟨h2, (rightS_iff h2).2 ⟨q1, q2, ⟨hy.2.1, hy.2.2⟩, q4⟩⟩
def xA (σ : Int → Sl) (a y : Int) : Int → Sl := if a = 0 then σ else setA σ a { σ a with x := y }
def pA (σ : Int → Sl) (a y : Int) : Int → Sl := if a = 0 then σ else setA σ a { σ a with p := y }
theorem mrgM_f (A B : Mem) : mrgM false A B = B := rfl
theorem Enc.tX {M : Mem} {σ : Int → Sl} (E : Enc M σ) {a y : Int} (h : a = 0 ∨ slOK M.size a) (hy : lnk y) : Enc (tX M a y) (xA σ a y) ∧ (tX M a y).size = M.size := by
  by_cases e : a = 0
  · subst e
    exact ⟨E, rfl⟩
  · have hb : (a == 0) = false := beq_eq_false_iff_ne.2 e
    have h := h.resolve_left e
    obtain ⟨k1, k2⟩ := E.ok a h
    obtain ⟨r1, r2⟩ := right_x k1 k2 hy
    have hl := (E.ld h).1
    unfold Go.Sx.M.tX xA
    rw [hb, mrgM_f, if_neg e, hl]
    obtain ⟨s1, _, s3⟩ := E.st h r1 r2
    exact ⟨s1, s3⟩
theorem Enc.tP {M : Mem} {σ : Int → Sl} (E : Enc M σ) {a y : Int} (h : a = 0 ∨ slOK M.size a) (hy : lnk y) : Enc (tP M a y) (pA σ a y) ∧ (tP M a y).size = M.size := by
  by_cases e : a = 0
  · subst e
    exact ⟨E, rfl⟩
  · have hb : (a == 0) = false := beq_eq_false_iff_ne.2 e
    have h := h.resolve_left e
    obtain ⟨k1, k2⟩ := E.ok a h
    obtain ⟨r1, r2⟩ := right_p k1 k2 hy
    have hl := (E.ld h).1
    unfold Go.Sx.M.tP pA
    rw [hb, mrgM_f, if_neg e, hl]
    obtain ⟨s1, _, s3⟩ := E.st h r1 r2
    exact ⟨s1, s3⟩
theorem slOK.lnk {n a : Int} (h : slOK n a) (hn : n ≤ 4294967296) : lnk a := ⟨h.1, by have := h.2.2; omega, h.2.1⟩
end Go.Sx.M

namespace Go.Sx.M
open Go Go.Sx
/-! Nodes in a row, each one's links in its slot. -/
def hdA : List Nd → Int → Int
  | [], n => n
  | x :: _, _ => x.t
def lsA : List Nd → Int → Int
  | [], p => p
  | x :: l, _ => lsA l x.t
def sN (x : Nd) (nx pv : Int) : Sl := ⟨x.k, x.a, x.b, x.r, x.g, x.s, x.m, nx, pv, x.d⟩
def DL (σ : Int → Sl) : Int → List Nd → Int → Prop
  | _, [], _ => True
  | p, x :: l, n => σ x.t = sN x (hdA l n) p ∧ DL σ x.t l n
theorem hdA_app (l1 l2 : List Nd) (n : Int) : hdA (l1 ++ l2) n = hdA l1 (hdA l2 n) := by cases l1 <;> rfl
theorem DL_app {σ : Int → Sl} : ∀ {l1 l2 : List Nd} {p n : Int}, DL σ p (l1 ++ l2) n ↔ DL σ p l1 (hdA l2 n) ∧ DL σ (lsA l1 p) l2 n
  | [], l2, p, n => by simp [DL, lsA]
  | x :: l1, l2, p, n => by
    simp only [List.cons_append, DL, lsA]
    rw [DL_app, hdA_app]
    constructor
    · rintro ⟨a, b, c⟩; exact ⟨⟨a, b⟩, c⟩
    · rintro ⟨⟨a, b⟩, c⟩; exact ⟨a, b, c⟩
/-- The slots of some nodes. -/
def tA (l : List Nd) : List Int := l.map Nd.t
theorem mem_tA {l : List Nd} {a : Int} : a ∈ tA l ↔ ∃ x, x ∈ l ∧ x.t = a := by simp [tA]
end Go.Sx.M

namespace Go.Sx.M
open Go Go.Sx
theorem right_eqS {z : Sl} (h : SlR z) : f45_1 z.k z.a z.b z.r z.g z.s z.m = f50_2 z.k z.a z.b z.r z.g z.s z.m := right_eq h.a.1 h.a.2 h.b h.m.1 h.m.2 h.g.2
/-- A node that may stand in a tree. -/
structure NdOk (n : Int) (x : Nd) : Prop where
  at_ : slOK n x.t
  nz : x.t ≠ 0
  k : x.k ≠ 0
  R : SlR (slN x)
  r : rgt (slN x) = true
  d0 : 0 ≤ x.d
  d1 : x.d ≤ 4096
/-- The tree holds these nodes. -/
structure RepS (t : TS) (l : List Nd) (σ : Int → Sl) : Prop where
  E : Enc t.M σ
  f : t.f = hdA l 0
  c : t.c = l.length
  nd : (tA l).Nodup
  ok : ∀ x, x ∈ l → NdOk t.M.size x
  dl : DL σ 0 l 0
  out : ∀ a, a ∉ tA l → slOK t.M.size a → σ a = sl0
theorem RepS.z0 {t : TS} {l : List Nd} {σ : Int → Sl} (h : RepS t l σ) : (0 : Int) ∉ tA l := fun e => by
  obtain ⟨x, hx, hz⟩ := mem_tA.1 e
  exact (h.ok x hx).nz hz
theorem DL_mem {σ : Int → Sl} : ∀ {l : List Nd} {p n : Int} {x : Nd}, DL σ p l n → x ∈ l → ∃ a b, σ x.t = sN x a b
  | [], _, _, _, _, h => by cases h
  | y :: l, p, n, x, ⟨a, b⟩, h => by
    rcases List.mem_cons.1 h with rfl | h
    · exact ⟨_, _, a⟩
    · exact DL_mem b h
/-- The node of a slot. -/
theorem fnd_spec {l : List Nd} (hd : (tA l).Nodup) (a : Int) : (∃ i : Nat, i < l.length ∧ (gN l i).t = a ∧ fnd l a = i ∧ gN l i ∈ l ∧ l = l.take i ++ gN l i :: l.drop (i + 1)) ∨ (a ∉ tA l ∧ fnd l a = -1) := by
  have e := nds_gN l
  rcases fnd_cases (gN l) l.length a with ⟨i, h1, h2, _, h4⟩ | ⟨h1, h2⟩
  · rw [e] at h4
    have hg : gN l i = l[i] := by simp [gN, List.getD, List.getElem?_eq_getElem h1]
    refine .inl ⟨i, h1, h2, h4, by rw [hg]; exact List.getElem_mem h1, ?_⟩
    rw [hg, List.getElem_cons_drop h1, List.take_append_drop]
  · rw [e] at h2
    refine .inr ⟨fun hm => ?_, h2⟩
    obtain ⟨x, hx, rfl⟩ := mem_tA.1 hm
    obtain ⟨i, hi, rfl⟩ := List.getElem_of_mem hx
    exact h1 i hi (by simp [gN, List.getD, List.getElem?_eq_getElem hi])
theorem mayT_eq {n a : Int} (h : 0 ≤ a) : mayT n a = errS n a := by
  unfold mayT errS
  rw [Int.tmod_eq_emod_of_nonneg h]
  by_cases h1 : a % 32 = 0
  · by_cases h2 : n ≤ a <;> simp [cnd_eq, h1, h2]
  · simp [cnd_eq, h1]
theorem mayT_ok {n a : Int} (h : 0 ≤ a) : mayT n a = 0 ↔ slOK n a := by
  rw [mayT_eq h]
  exact ⟨fun e => ⟨h, (errS_ok e).1, (errS_ok e).2⟩, fun e => errS_mk e.2.1 e.2.2⟩
/-- What is loaded where. -/
theorem RepS.ld {t : TS} {l : List Nd} {σ : Int → Sl} (h : RepS t l σ) {a : Int} (hu : U64 a) :
    (slOK t.M.size a ∧ mayT t.M.size a = 0 ∧ ldE t.M a = 0 ∧ ld t.M a = σ a ∧ ((∃ i : Nat, i < l.length ∧ (gN l i).t = a ∧ fnd l a = i ∧ gN l i ∈ l ∧ l = l.take i ++ gN l i :: l.drop (i + 1)) ∨ (a ∉ tA l ∧ fnd l a = -1 ∧ σ a = sl0))) ∨
      (¬ slOK t.M.size a ∧ mayT t.M.size a ≠ 0 ∧ ldE t.M a = mayT t.M.size a ∧ ld t.M a = sl0 ∧ fnd l a = -1 ∧ a ∉ tA l) := by
  by_cases hs : slOK t.M.size a
  · obtain ⟨h1, h2⟩ := h.E.ld hs
    refine .inl ⟨hs, (mayT_ok hu.1).2 hs, h2, h1, ?_⟩
    rcases fnd_spec h.nd a with q | ⟨q1, q2⟩
    · exact .inl q
    · exact .inr ⟨q1, q2, h.out a q1 hs⟩
  · obtain ⟨h1, h2, h3⟩ := ld_not (M := t.M) hu hs
    have hm : a ∉ tA l := fun e => by
      obtain ⟨x, hx, rfl⟩ := mem_tA.1 e
      exact hs (h.ok x hx).at_
    refine .inr ⟨hs, fun e => hs ((mayT_ok hu.1).1 e), by rw [h2, mayT_eq hu.1], h1, ?_, hm⟩
    rcases fnd_spec h.nd a with ⟨i, _, q2, _, q4, _⟩ | ⟨_, q2⟩
    · exact absurd (mem_tA.2 ⟨_, q4, q2⟩) hm
    · exact q2
theorem RepS.hdE {t : TS} {l : List Nd} {σ : Int → Sl} (h : RepS t l σ) {a : Int} (hu : U64 a) : hdE t.M a = hdT t.M.size l a := by
  unfold Go.Sx.M.hdE hdT
  rcases h.ld hu with ⟨_, m0, e0, el, ⟨i, _, ht, hf, hm, _⟩ | ⟨_, hf, hz⟩⟩ | ⟨_, m0, e0, el, hf, _⟩
  · obtain ⟨p, q, hs⟩ := DL_mem h.dl hm
    rw [ht] at hs
    have hk := (h.ok _ hm).k
    have hi1 : ¬ ((i : Int) < 0) := by omega
    have hi2 : (0 : Int) ≤ i := by omega
    rw [e0, m0, el, hs, hf]
    simp [cnd_eq, sN, hk, hi1]
  · rw [e0, m0, el, hz, hf]
    simp [cnd_eq, sl0]
  · rw [e0, hf]
    simp [cnd_eq, m0]
theorem RepS.frE {t : TS} {l : List Nd} {σ : Int → Sl} (h : RepS t l σ) {a : Int} (hu : U64 a) : frE t.M a = frT t.M.size l a := by
  unfold Go.Sx.M.frE frT
  rcases h.ld hu with ⟨_, m0, e0, el, ⟨i, _, ht, hf, hm, _⟩ | ⟨_, hf, hz⟩⟩ | ⟨_, m0, e0, el, hf, _⟩
  · obtain ⟨p, q, hs⟩ := DL_mem h.dl hm
    rw [ht] at hs
    have hk := (h.ok _ hm).k
    have hi1 : ¬ ((i : Int) < 0) := by omega
    have hi2 : (0 : Int) ≤ i := by omega
    rw [e0, m0, el, hs, hf]
    by_cases ha : a = 0 <;> simp [cnd_eq, sN, hk, ha, hi2]
  · rw [e0, m0, el, hz, hf]
    by_cases ha : a = 0 <;> simp [cnd_eq, sl0, ha]
  · rw [e0, hf]
    simp [cnd_eq, m0]
theorem mayC_eq {x : Nd} (h : SlR (slN x)) : mayC (slN x) = cnd (badC x) 10 0 := by
  have e := right_eqS h
  have e : f45_1 x.k x.a x.b x.r x.g x.s x.m = f50_2 x.k x.a x.b x.r x.g x.s x.m := e
  simp only [mayC, slN, f178_0, badC, e]
theorem RepS.ftE {t : TS} {l : List Nd} {σ : Int → Sl} (h : RepS t l σ) {x : Nd} (hu : U64 x.t) (hx : SlR (slN x)) : ftE t.M t.c x.t (slN x) = ftT t.M.size l x := by
  unfold Go.Sx.M.ftE ftT
  rw [h.frE hu, mayC_eq hx, h.c]
  cases badC x <;> rfl
end Go.Sx.M

namespace Go.Sx.M
open Go Go.Sx Go.Proofs Go.RowKit
/-- What a node's capability says. -/
theorem node_facts {z : Sl} (h : SlR z) (ho : pOk z = true) :
    z.g + z.b ≤ 64 ∧ 0 ≤ z.m ∧ z.m < ((2 ^ z.g.toNat : Nat) : Int) ∧ 0 ≤ z.a ∧ z.a % 32 = 0 ∧ z.a + ((2 ^ z.b.toNat : Nat) : Int) * 32 ≤ 4294967296 := by
  obtain ⟨k2, hr, _, _, _, _, ⟨b0, b1⟩, ⟨g0, g1⟩⟩ := pOk_spec h ho
  have hd : f50_2 z.k z.a z.b z.r z.g z.s z.m = true := rgt2 h hr
  obtain ⟨q1, q2, q3⟩ := right_size' hr
  have hsb := (slots_bits q1).1 (.inl k2)
  have hl : f127_1 z.k z.a z.b z.r z.g z.s z.m = true := by
    cases hh : f127_1 z.k z.a z.b z.r z.g z.s z.m with
    | true => rfl
    | false => rw [← hd]; simp [f50_2, hh, cnd_eq]
  have hm : f128_5 z.k z.a z.b z.r z.g z.s z.m = true := by revert hd; simp only [f50_2, hl, cnd_eq]; grind (splits := 40)
  have hpg := p26_eq (n := z.g.toNat) (by omega)
  have hpb := p26_eq (n := (z.b + 5).toNat) (by omega)
  have e5 : (z.b + 5).toNat = z.b.toNat + 5 := by omega
  have hw : IntKind.i64.wrap (64 - z.b) = 64 - z.b := wi (by omega) (by omega)
  have hpw : (2 : Nat) ^ (z.b.toNat + 5) = 2 ^ z.b.toNat * 32 := by rw [Nat.pow_add]
  have hle : (2 : Nat) ^ z.b.toNat ≤ 2 ^ 12 := Nat.pow_le_pow_right (by omega) (by omega)
  have h12 : (2 : Nat) ^ 12 = 4096 := by decide
  have ha := h.a
  have hmm := h.m
  have a1 : z.a < 4294967296 ∧ z.a.tmod (p26 (z.b + 5).toNat) = 0 ∧ IntKind.u64.wrap (z.a + p26 (z.b + 5).toNat) ≤ 4294967296 := by
    have hd : decide (z.b + 5 < 0) = false := decide_eq_false (by omega)
    simp only [f127_1, hsb.2.2, hd] at hl
    revert hl
    generalize z.a.tmod (p26 (z.b + 5).toNat) = u
    generalize IntKind.u64.wrap (z.a + p26 (z.b + 5).toNat) = u2
    simp only [cnd_eq]
    grind
  have m1 : z.g ≤ 64 - z.b ∧ z.m < p26 z.g.toNat := by
    simp only [f128_5, k2, hw] at hm
    revert hm
    generalize p26 z.g.toNat = u
    simp only [cnd_eq]
    grind
  obtain ⟨x1, x2, x3⟩ := a1
  rw [hpb, e5, hpw] at x3 x2
  rw [hpg] at m1
  have hw2 : IntKind.u64.wrap (z.a + ((2 ^ z.b.toNat * 32 : Nat) : Int)) = z.a + ((2 ^ z.b.toNat * 32 : Nat) : Int) := wrap_u64_id (by have := ha.1; omega) (by omega)
  rw [hw2] at x3
  have x4 : z.a % ((2 ^ z.b.toNat * 32 : Nat) : Int) = 0 := by rw [← Int.tmod_eq_emod_of_nonneg ha.1]; exact x2
  have x5 : (32 : Int) ∣ z.a := Int.dvd_trans (by rw [show (32 : Int) = ((32 : Nat) : Int) by rfl, Int.natCast_dvd_natCast]; exact Nat.dvd_mul_left _ _) (Int.dvd_of_emod_eq_zero x4)
  have mm0 := hmm.1
  have aa0 := ha.1
  refine ⟨by omega, by omega, by omega, by omega, by omega, by omega⟩
/-- The bits that are taken. -/
theorem pT_eq {w : Nat} {l n : Int} (hw : w < 18446744073709551616) (h0 : 0 ≤ l) (h1 : 0 ≤ n) (h2 : l + n ≤ 64) (h3 : n ≤ 63) : pT w l n = ((w / 2 ^ l.toNat % 2 ^ n.toNat : Nat) : Int) := by
  unfold pT
  by_cases hn : n = 0
  · subst hn
    simp [cnd, Nat.mod_one]
  · rw [beq_eq_false_iff_ne.2 hn]
    show f102_1 l n w = _
    refine field_get hw ?_ h0 (by omega) (by omega) h3
    have hw2 : IntKind.i64.wrap (64 - l) = 64 - l := wi (by omega) (by omega)
    simp only [f165_0, hw2]
    rw [decide_eq_true (show l ≥ 0 by omega), decide_eq_true (show l < 64 by omega), decide_eq_true (show n ≥ 1 by omega), decide_eq_true (show n ≤ 64 - l by omega)]
    rfl
/-- A step through a node that is wide enough. -/
theorem p_at {w : Nat} {l a b g m : Int} (hw : w < 18446744073709551616) (hp : pnOk l b g) (hle : g + b ≤ l) (ha : 0 ≤ a) (ha2 : a + ((2 ^ b.toNat : Nat) : Int) * 32 ≤ 4294967296) :
    pF w l b g m = (((w / 2 ^ (l - g).toNat % 2 ^ g.toNat : Nat) : Int) != m) ∧ (pF w l b g m = false → pL w l b g m = l - g - b ∧ pS w l a b g m = a + ((w / 2 ^ (l - g - b).toNat % 2 ^ b.toNat : Nat) : Int) * 32) := by
  have hp0 := hp
  obtain ⟨⟨l0, l1⟩, ⟨b0, b1⟩, ⟨g0, g1⟩⟩ := hp
  have hG : pG l b g = false := by
    unfold pG
    rw [wi (by omega) (by omega)]
    exact decide_eq_false (by omega)
  have e1 : IntKind.i64.wrap (l - g) = l - g := wi (by omega) (by omega)
  refine ⟨?_, fun hf => ?_⟩
  · unfold pF
    rw [hG, e1, pT_eq hw (by omega) g0 (by omega) g1]
    rfl
  · obtain ⟨q1, q2, q3⟩ := pL_less hp0 hf
    refine ⟨q1, ?_⟩
    have e2 : IntKind.i64.wrap (pL1 l b g - b) = l - g - b := by
      have : pL w l b g m = IntKind.i64.wrap (pL1 l b g - b) := by unfold pL; rw [hf]; rfl
      rw [← this, q1]
    unfold pS
    rw [hf, e2, pT_eq hw (by omega) (by omega) (by omega) (by omega)]
    have hlt : w / 2 ^ (l - g - b).toNat % 2 ^ b.toNat < 2 ^ b.toNat := Nat.mod_lt _ (Nat.pow_pos (by omega))
    generalize w / 2 ^ (l - g - b).toNat % 2 ^ b.toNat = t at *
    show IntKind.u64.wrap (a + IntKind.u64.wrap ((t : Int) * 32)) = _
    rw [wrap_u64_id (x := (t : Int) * 32) (by omega) (by omega), wrap_u64_id (by omega) (by omega)]
/-- A number with a node's guard ahead. -/
def pM (z : Sl) (w : Nat) (l : Int) : Bool := ((w / 2 ^ (l - z.g).toNat % 2 ^ z.g.toNat : Nat) : Int) == z.m
def pX (z : Sl) (w : Nat) (l : Int) : Int := z.a + ((w / 2 ^ (l - z.g - z.b).toNat % 2 ^ z.b.toNat : Nat) : Int) * 32
theorem wkM_end {cf : Int → Sl} {z : Sl} (hz : SlR z) (ho : pOk z = true) {w n : Nat} {c : Int} (hw : w < 18446744073709551616) :
    wkM cf w (n + 1) (z.g + z.b) c (pNa z) (pNb z) (pNg z) (pNm z) = ⟨cnd (pM z w (z.g + z.b)) (pX z w (z.g + z.b)) 0, pM z w (z.g + z.b), cnd (pM z w (z.g + z.b)) 0 z.b, IntKind.i64.wrap (c + 1)⟩ := by
  obtain ⟨_, _, e1, e2, e3, e4, hb, hg⟩ := pOk_spec hz ho
  obtain ⟨n1, n2, n3, n4, n5, n6⟩ := node_facts hz ho
  have hp : pnOk (z.g + z.b) z.b z.g := ⟨by omega, hb, hg⟩
  obtain ⟨f1, f2⟩ := p_at (m := z.m) hw hp (Int.le_refl _) n4 n6
  rw [e1, e2, e3, e4]
  simp only [wkM]
  have hM : pM z w (z.g + z.b) = !pF w (z.g + z.b) z.b z.g z.m := by
    rw [f1]
    unfold pM
    simp [bne]
  cases hF : pF w (z.g + z.b) z.b z.g z.m with
  | true =>
    rw [hM, hF]
    have hG : pG (z.g + z.b) z.b z.g = false := by
      unfold pG
      rw [wi (by omega) (by omega)]
      exact decide_eq_false (by omega)
    have hL : pL w (z.g + z.b) z.b z.g z.m = z.b := by
      unfold pL pL1
      rw [hF, hG]
      show IntKind.i64.wrap (z.g + z.b - z.g) = z.b
      rw [wi (by omega) (by omega)]
      omega
    have hS : pS w (z.g + z.b) z.a z.b z.g z.m = 0 := by unfold pS; rw [hF]; rfl
    rw [hL, hS]
    rfl
  | false =>
    obtain ⟨g1, g2⟩ := f2 hF
    rw [hM, hF, g1, g2]
    have h0 : z.g + z.b - z.g - z.b = 0 := by omega
    rw [h0]
    unfold pX
    rw [h0]
    rfl
theorem wkM_on {cf : Int → Sl} {z : Sl} (hz : SlR z) (ho : pOk z = true) {w n : Nat} {l c : Int} (hw : w < 18446744073709551616) (hl : z.g + z.b < l) (hl2 : l ≤ 64) (hm : pM z w l = true) (hc : pOk (cf (pX z w l)) = true) :
    wkM cf w (n + 1) l c (pNa z) (pNb z) (pNg z) (pNm z) = wkM cf w n (l - z.g - z.b) (IntKind.i64.wrap (c + 1)) (pNa (cf (pX z w l))) (pNb (cf (pX z w l))) (pNg (cf (pX z w l))) (pNm (cf (pX z w l))) := by
  obtain ⟨_, _, e1, e2, e3, e4, hb, hg⟩ := pOk_spec hz ho
  obtain ⟨n1, n2, n3, n4, n5, n6⟩ := node_facts hz ho
  have hp : pnOk l z.b z.g := ⟨by omega, hb, hg⟩
  obtain ⟨f1, f2⟩ := p_at (m := z.m) hw hp (by omega) n4 n6
  have hF : pF w l z.b z.g z.m = false := by
    rw [f1]
    unfold pM at hm
    simp only [beq_iff_eq] at hm
    rw [hm]
    simp
  obtain ⟨g1, g2⟩ := f2 hF
  have g2 : pS w l z.a z.b z.g z.m = pX z w l := g2
  rw [e1, e2, e3, e4]
  simp only [wkM]
  rw [hF, g1, g2, hc]
  have : (l - z.g - z.b == 0) = false := beq_eq_false_iff_ne.2 (by omega)
  rw [this]
  rfl
theorem bgE_mk {z : Sl} {l : Int} (ho : pOk z = true) (h1 : 1 ≤ l) (h2 : l ≤ 64) : bgE z l = 0 := by
  have hb : lbad l = false := by
    unfold lbad
    rw [decide_eq_false (by omega), decide_eq_false (by omega)]
    rfl
  unfold bgE
  rw [hb, ho]
  rfl
/-- Through one slot that holds a node into that. -/
theorem fd_two {M : Mem} (hM : MemR M) {z y : Sl} (hz : SlR z) (ho : pOk z = true) (hy : pOk y = true) {w : Nat} (hw : w < 18446744073709551616) (hn : z.g + z.b + y.g + y.b ≤ 64)
    (hm : pM z w (z.g + z.b + y.g + y.b) = true) (hc : capS (ld M (pX z w (z.g + z.b + y.g + y.b))) = y) :
    fdE M z w (z.g + z.b + y.g + y.b) = cnd (pM y w (y.g + y.b)) 0 23 ∧ fdA M z w (z.g + z.b + y.g + y.b) = cnd (pM y w (y.g + y.b)) (pX y w (y.g + y.b)) 0 := by
  have hyR : SlR y := hc ▸ capS_R (ld_SlR hM _)
  obtain ⟨_, _, _, _, _, _, hb, hg⟩ := pOk_spec hz ho
  obtain ⟨_, _, _, _, _, _, hb', hg'⟩ := pOk_spec hyR hy
  have hbg := bgE_mk (l := z.g + z.b + y.g + y.b) ho (by omega) hn
  have hl : ∃ k : Nat, (z.g + z.b + y.g + y.b).toNat = k + 1 := ⟨(z.g + z.b + y.g + y.b).toNat - 1, by omega⟩
  obtain ⟨k, hk⟩ := hl
  unfold fdE fdA wkE wkA wkB wkW
  rw [hbg, hk, wkM_on (cf := fun a => capS (ld M a)) hz ho hw (by omega) hn hm (by show pOk (capS (ld M _)) = true; rw [hc]; exact hy)]
  simp only [hc]
  have e : z.g + z.b + y.g + y.b - z.g - z.b = y.g + y.b := by omega
  rw [e, wkM_end hyR hy hw]
  cases pM y w (y.g + y.b) <;> exact ⟨rfl, rfl⟩
end Go.Sx.M

namespace Go.Sx.M
open Go Go.Sx Go.Proofs Go.RowKit
theorem node_size {z : Sl} (h : SlR z) (ho : pOk z = true) : f129_1 z.k z.a z.b z.r z.g z.s z.m = ((2 ^ z.b.toNat : Nat) : Int) ∧ f126_0 z.k z.a z.b z.r z.g z.s z.m = z.a + ((2 ^ z.b.toNat : Nat) : Int) * 32 := by
  obtain ⟨k2, hr, _, _, _, _, ⟨b0, b1⟩, ⟨g0, g1⟩⟩ := pOk_spec h ho
  obtain ⟨n1, n2, n3, n4, n5, n6⟩ := node_facts h ho
  obtain ⟨q1, q2, q3⟩ := right_size' hr
  have hsb := (slots_bits q1).1 (.inl k2)
  obtain ⟨p1, p2, p3, p4, p5⟩ := pow_slots (b := z.b) (by omega) (by omega)
  have hpb := p26_eq (n := z.b.toNat) (by omega)
  constructor
  · simp only [f129_1, p1]
    have hr : f45_1 z.k z.a z.b z.r z.g z.s z.m = true := hr
    rw [hr, k2, hpb]
    rfl
  · have e : f162_0 z.k z.a z.b z.r z.g z.s z.m = z.b + 5 := by
      have hr : f45_1 z.k z.a z.b z.r z.g z.s z.m = true := hr
      simp only [f162_0, q1, hr, q2, hsb.2.2]
      rfl
    have eo : f123_1 (z.b + 5) = p26 (z.b + 5).toNat - 1 := ones_eq (by omega) (by omega)
    simp only [f126_0, e, eo]
    rw [decide_eq_false (by omega), p3, hpb]
    show IntKind.u64.wrap (IntKind.u64.wrap (z.a + (((2 ^ z.b.toNat : Nat) : Int) * 32 - 1)) + 1) = _
    have hp : 0 < 2 ^ z.b.toNat := Nat.pow_pos (by omega)
    rw [wrap_u64_id (x := z.a + (((2 ^ z.b.toNat : Nat) : Int) * 32 - 1)) (by omega) (by omega), wrap_u64_id (by omega) (by omega)]
    omega
/-- A slot's own number. -/
def own (z : Sl) (n : Nat) : Nat := z.m.toNat * 2 ^ z.b.toNat + n
theorem own_lt {z : Sl} (h : SlR z) (ho : pOk z = true) {n : Nat} (hn : n < 2 ^ z.b.toNat) : own z n < 2 ^ (z.g + z.b).toNat ∧ own z n < 18446744073709551616 := by
  obtain ⟨_, _, _, _, _, _, ⟨b0, b1⟩, ⟨g0, g1⟩⟩ := pOk_spec h ho
  obtain ⟨n1, n2, n3, _⟩ := node_facts h ho
  have e : (z.g + z.b).toNat = z.g.toNat + z.b.toNat := by omega
  have hm : z.m.toNat + 1 ≤ 2 ^ z.g.toNat := by omega
  have h1 : own z n < 2 ^ (z.g + z.b).toNat := by
    rw [e, Nat.pow_add]
    unfold own
    calc z.m.toNat * 2 ^ z.b.toNat + n < z.m.toNat * 2 ^ z.b.toNat + 2 ^ z.b.toNat := by omega
      _ = (z.m.toNat + 1) * 2 ^ z.b.toNat := by rw [Nat.add_mul, Nat.one_mul]
      _ ≤ 2 ^ z.g.toNat * 2 ^ z.b.toNat := Nat.mul_le_mul_right _ hm
  have h2 : 2 ^ (z.g + z.b).toNat ≤ 2 ^ 64 := Nat.pow_le_pow_right (by omega) (by omega)
  have h64 : (2 : Nat) ^ 64 = 18446744073709551616 := by decide
  exact ⟨h1, by omega⟩
theorem own_or {z : Sl} (h : SlR z) (ho : pOk z = true) {n : Nat} (hn : n < 2 ^ z.b.toNat) :
    Go.bits Go.BinOp.or Go.IntKind.u64 (Go.IntKind.u64.wrap (z.m * (2 : Int) ^ Min.min z.b.toNat (64 : Nat))) (n : Int) = own z n := by
  obtain ⟨_, _, _, _, _, _, ⟨b0, b1⟩, ⟨g0, g1⟩⟩ := pOk_spec h ho
  obtain ⟨n1, n2, n3, _⟩ := node_facts h ho
  obtain ⟨w1, w2⟩ := own_lt h ho hn
  have e : Min.min z.b.toNat 64 = z.b.toNat := by omega
  have e2 : z.m * (2 : Int) ^ z.b.toNat = ((z.m.toNat * 2 ^ z.b.toNat : Nat) : Int) := by
    have : z.m = (z.m.toNat : Int) := by omega
    rw [this]
    simp
  have hle : z.m.toNat * 2 ^ z.b.toNat ≤ own z n := by unfold own; omega
  rw [e, e2, wrap_u64_id (by omega) (by omega), u64_or_nat _ _ (by omega) (by unfold own at w2; omega)]
  have := Nat.two_pow_add_eq_or_of_lt hn z.m.toNat
  rw [Nat.mul_comm] at this
  rw [← this]
  rfl
theorem own_at {z : Sl} (h : SlR z) (ho : pOk z = true) {n : Nat} (hn : n < 2 ^ z.b.toNat) (x : Nat) :
    (pM z x (z.g + z.b) = true ∧ pX z x (z.g + z.b) = z.a + (n : Int) * 32) ↔ x % 2 ^ (z.g + z.b).toNat = own z n := by
  obtain ⟨_, _, _, _, _, _, ⟨b0, b1⟩, ⟨g0, g1⟩⟩ := pOk_spec h ho
  obtain ⟨n1, n2, n3, _⟩ := node_facts h ho
  have e : (z.g + z.b).toNat = z.b.toNat + z.g.toNat := by omega
  have e1 : (z.g + z.b - z.g).toNat = z.b.toNat := by omega
  have e2 : (z.g + z.b - z.g - z.b).toNat = 0 := by omega
  unfold pM pX own
  rw [e1, e2, e, Nat.pow_add, Nat.mod_mul, Nat.pow_zero, Nat.div_one]
  have hlt : x % 2 ^ z.b.toNat < 2 ^ z.b.toNat := Nat.mod_lt _ (Nat.pow_pos (by omega))
  generalize x / 2 ^ z.b.toNat % 2 ^ z.g.toNat = u
  generalize x % 2 ^ z.b.toNat = r at hlt ⊢
  generalize 2 ^ z.b.toNat = B at *
  obtain ⟨m, hm⟩ : ∃ m : Nat, z.m = m := ⟨z.m.toNat, by omega⟩
  rw [hm, beq_iff_eq]
  constructor
  · rintro ⟨h1, h2⟩
    have h1 : u = m := by omega
    have h2 : r = n := by omega
    rw [h1, h2, Int.toNat_natCast, Nat.mul_comm]
    omega
  · intro h1
    rw [Int.toNat_natCast] at h1
    have hmod := congrArg (· % B) h1
    have hdiv := congrArg (· / B) h1
    have hB : 0 < B := by omega
    simp only [Nat.add_mul_mod_self_left, Nat.mul_add_mod_self_right, Nat.mod_eq_of_lt hlt, Nat.mod_eq_of_lt hn, Nat.add_mul_div_left _ _ hB, Nat.div_eq_of_lt hlt, Nat.div_eq_of_lt hn, Nat.zero_add] at hmod hdiv
    have h3 : (m * B + n) / B = m := by
      rw [Nat.add_comm, Nat.add_mul_div_right _ _ hB, Nat.div_eq_of_lt hn, Nat.zero_add]
    rw [h3] at hdiv
    exact ⟨by omega, by omega⟩
theorem own_mod {z : Sl} (h : SlR z) (ho : pOk z = true) {n : Nat} (hn : n < 2 ^ z.b.toNat) : own z n % 2 ^ (z.g + z.b).toNat = own z n := Nat.mod_eq_of_lt (own_lt h ho hn).1
end Go.Sx.M

namespace Go.Sx.M
open Go Go.Sx
end Go.Sx.M

namespace Go.Sx.M
open Go Go.Sx
theorem cnd_f {α : Type} (a b : α) : cnd false a b = b := rfl
theorem cnd_t {α : Type} (a b : α) : cnd true a b = a := rfl
/-- Where a node stands. -/
theorem RepS.at_ {t : TS} {l : List Nd} {σ : Int → Sl} (h : RepS t l σ) {a : Int} (hu : U64 a) (he : hdT t.M.size l a = 0) :
    ∃ (l1 l2 : List Nd) (g : Nd), l = l1 ++ g :: l2 ∧ g.t = a ∧ fnd l a = l1.length ∧ atN l a = g ∧ Go.Sx.M.ld t.M a = sN g (hdA l2 0) (lsA l1 0) ∧ σ a = sN g (hdA l2 0) (lsA l1 0) ∧ slOK t.M.size a := by
  rcases h.ld hu with ⟨hs, m0, e0, el, ⟨i, hi, ht, hf, hm, hl⟩ | ⟨_, hf, hz⟩⟩ | ⟨_, m0, e0, el, hf, _⟩
  · refine ⟨l.take i, l.drop (i + 1), gN l i, hl, ht, by rw [hf, List.length_take]; omega, by unfold atN; rw [hf]; rfl, ?_⟩
    have hd := h.dl
    rw [hl] at hd
    obtain ⟨_, q⟩ := DL_app.1 hd
    obtain ⟨q, _⟩ := q
    rw [ht] at q
    exact ⟨by rw [el]; exact q, q, hs⟩
  · exfalso
    unfold hdT at he
    rw [m0, hf] at he
    cases he
  · exfalso
    unfold hdT at he
    rw [hf, beq_eq_false_iff_ne.2 m0] at he
    exact m0 he
end Go.Sx.M

namespace Go.Sx.M
open Go Go.Sx Go.Proofs Go.RowKit
theorem pow_b {b : Int} (b0 : 0 ≤ b) (b1 : b ≤ 12) : (2 : Int) ^ Min.min b.toNat (64 : Nat) = ((2 ^ b.toNat : Nat) : Int) ∧ 0 < 2 ^ b.toNat ∧ 2 ^ b.toNat ≤ 4096 := by
  have e : Min.min b.toNat 64 = b.toNat := by omega
  have h : (2 : Nat) ^ b.toNat ≤ 2 ^ 12 := Nat.pow_le_pow_right (by omega) (by omega)
  have h12 : (2 : Nat) ^ 12 = 4096 := by decide
  exact ⟨by rw [e]; simp, Nat.pow_pos (by omega), by omega⟩
/-- A node's slot, by its place. -/
theorem slot_at {z : Sl} (h : SlR z) (ho : pOk z = true) {n : Int} (h0 : 0 ≤ n) (h1 : n < ((2 ^ z.b.toNat : Nat) : Int)) :
    IntKind.u64.wrap n = n ∧ IntKind.u64.wrap (z.a + IntKind.u64.wrap (IntKind.u64.wrap n * 32)) = z.a + n * 32 := by
  obtain ⟨_, _, _, _, _, _, ⟨b0, b1⟩, _⟩ := pOk_spec h ho
  obtain ⟨n1, n2, n3, n4, n5, n6⟩ := node_facts h ho
  obtain ⟨_, p1, p2⟩ := pow_b (b := z.b) (by omega) b1
  have e : IntKind.u64.wrap n = n := wrap_u64_id (by omega) (by omega)
  refine ⟨e, ?_⟩
  rw [e, wrap_u64_id (x := n * 32) (by omega) (by omega), wrap_u64_id (by omega) (by omega)]
end Go.Sx.M

namespace Go.Sx.M
open Go Go.Sx Go.Proofs Go.RowKit
set_option maxRecDepth 100000
end Go.Sx.M

namespace Go.Sx.M
open Go Go.Sx Go.Proofs Go.RowKit
/-- The number of a node's own slot. -/
theorem number_at {z : Sl} (h : SlR z) (ho : pOk z = true) {a : Int} (ha : U64 a) (h32 : a % 32 = 0) (h0 : z.a ≤ a) (h1 : a < z.a + ((2 ^ z.b.toNat : Nat) : Int) * 32) (v : V49) (e5 : f49_5 v = z) (ea : v.at_ = a) (e8 : f49_8 v = z.a + ((2 ^ z.b.toNat : Nat) : Int) * 32) :
    f49_1 v ∧ ∃ N : Nat, N < 2 ^ z.b.toNat ∧ a = z.a + (N : Int) * 32 ∧ f49_2 v = own z N ∧ f49_3 v = z.g + z.b ∧ f49_4 v = 0 := by
  obtain ⟨_, _, a1, a2, a3, a4, ⟨b0, b1⟩, ⟨g0, g1⟩⟩ := pOk_spec h ho
  obtain ⟨n1, n2, n3, n4, n5, n6⟩ := node_facts h ho
  have hal : f125_0 v.at_ 5 = true := by
    rw [ea, aligned_eq ha.1 ha.2 (by omega) (by omega)]
    have : p26 (Int.toNat 5) = 32 := by decide +kernel
    rw [this, h32]
    rfl
  have e7 : f49_7 v = z.a := by unfold f49_7; rw [e5, a1]
  have e10 : f49_10 v = z.b := by unfold f49_10; rw [e5, a2]
  have e6 : f49_6 v = false := by unfold f49_6; rw [e5, ho]; rfl
  have e9 : f49_9 v = false := by
    unfold f49_9
    rw [e7, e8, ea, decide_eq_false (by omega), decide_eq_false (by omega)]
    rfl
  refine ⟨fun _ _ _ => ⟨fun _ => by rw [e10]; omega, fun _ => by decide⟩, ?_⟩
  obtain ⟨N, hN⟩ : ∃ N : Nat, (a - z.a) / 32 = N := ⟨((a - z.a) / 32).toNat, by omega⟩
  have hNB : N < 2 ^ z.b.toNat := by omega
  refine ⟨N, hNB, by omega, ?_, ?_, ?_⟩
  · unfold f49_2
    rw [e6, hal, e9, e5, a4, e10, ea, e7, wrap_u64_id (x := a - z.a) (by omega) (by have := ha.2; omega), Int.tdiv_eq_ediv_of_nonneg (by omega), hN]
    have hle : (2 : Nat) ^ z.b.toNat ≤ 2 ^ 12 := Nat.pow_le_pow_right (by omega) (by omega)
    have h12 : (2 : Nat) ^ 12 = 4096 := by decide
    rw [wrap_u64_id (x := (N : Int)) (by omega) (by omega)]
    exact own_or h ho hNB
  · unfold f49_3
    rw [e6, hal, e9, e5, a3, e10]
    exact wi (by omega) (by omega)
  · unfold f49_4
    rw [e6, hal, e9]
    rfl
end Go.Sx.M

namespace Go.Sx.M
open Go Go.Sx Go.Proofs Go.RowKit
set_option maxRecDepth 100000
end Go.Sx.M

namespace Go.Sx.M
open Go Go.Sx Go.Proofs Go.RowKit
theorem slot_ok {z : Sl} (h : SlR z) (v : V51) (e : f51_3 v = z) (e4 : f51_4 v = f129_1 z.k z.a z.b z.r z.g z.s z.m) (h2 : f51_2 v = 0) :
    pOk z = true ∧ ∃ N : Nat, N < 2 ^ z.b.toNat ∧ f51_1 v = z.a + (N : Int) * 32 := by
  unfold f51_2 at h2
  rw [e] at h2
  cases ho : pOk z with
  | false => rw [ho] at h2; cases h2
  | true =>
    obtain ⟨s1, s2⟩ := node_size h ho
    obtain ⟨_, _, a1, _⟩ := pOk_spec h ho
    rw [ho, e4, s1] at h2
    cases hr : cnd (decide (v.n < 0)) true (decide (v.n ≥ ((2 ^ z.b.toNat : Nat) : Int))) with
    | true => rw [hr] at h2; cases h2
    | false =>
      have hq := hr
      simp only [cnd_or, Bool.or_eq_false_iff, decide_eq_false_iff_not] at hq
      obtain ⟨N, hN⟩ : ∃ N : Nat, v.n = N := ⟨v.n.toNat, by omega⟩
      obtain ⟨t1, t2⟩ := slot_at h ho (n := v.n) (by omega) (by omega)
      refine ⟨rfl, N, by omega, ?_⟩
      unfold f51_1
      rw [e, ho, e4, s1, hr, a1, t2, hN]
      rfl
theorem join_num {A B L : Nat} (hA : A < 2 ^ L) : (B * 2 ^ L + A) / 2 ^ L = B ∧ (B * 2 ^ L + A) % 2 ^ L = A := by
  have hp : 0 < 2 ^ L := Nat.pow_pos (by omega)
  constructor
  · rw [Nat.add_comm, Nat.add_mul_div_right _ _ hp, Nat.div_eq_of_lt hA, Nat.zero_add]
  · rw [Nat.add_comm, Nat.add_mul_mod_self_right, Nat.mod_eq_of_lt hA]
theorem law15_true (v : V15) (hc : SlR ⟨v.k, v.a, v.b, v.r, v.g, v.s, v.m, 0, 0, 0⟩) (hq : SlR ⟨v.kq, v.aq, v.bq, v.rq, v.gq, v.sq, v.mq, 0, 0, 0⟩) : (f15 v).ok ∧ f15_14 v = true := by
  have hM : f15_18 v = false → MemR (f15_26 v) ∧ U64 (f15_17 v) ∧ (∀ j, j < 1 → U64 (f15_17 v) ∧ SlR ⟨v.kq, v.aq, v.bq, v.rq, v.gq, v.sq, v.mq, 0, 0, 0⟩) := by
    intro _
    have hU : U64 (f15_17 v) := by
      unfold f15_17 f51_1
      exact cnd_ind u0 (cnd_ind u0 (wrapR _))
    have hp : ∀ j, j < 1 → U64 (f15_17 v) ∧ SlR ⟨v.kq, v.aq, v.bq, v.rq, v.gq, v.sq, v.mq, 0, 0, 0⟩ := fun _ _ => ⟨hU, hq⟩
    exact ⟨(opS_R _ 1 hp).1, hU, hp⟩
  have e3 : f51_3 (f15_15 v) = ⟨v.k, v.a, v.b, v.r, v.g, v.s, v.m, 0, 0, 0⟩ := rfl
  have e3q : f51_3 (f15_16 v) = ⟨v.kq, v.aq, v.bq, v.rq, v.gq, v.sq, v.mq, 0, 0, 0⟩ := rfl
  have main : f15_18 v = false → (f49_1 (f77_8 (f15_20 v)) ∧ f49_1 (f77_11 (f15_20 v)) ∧ f77_4 (f15_20 v)) ∧ f15_14 v = true := by
    intro h18
    have h18' := h18
    unfold f15_18 at h18'
    simp only [cnd_or, Bool.or_eq_false_iff, bne_eq_false_iff_eq] at h18'
    obtain ⟨⟨g1, g2⟩, g3⟩ := h18'
    obtain ⟨hM1, hU, _⟩ := hM h18
    obtain ⟨ho, I, hI, ha⟩ := slot_ok hc (f15_15 v) e3 rfl g1
    obtain ⟨hoq, K, hK, hb⟩ := slot_ok hq (f15_16 v) e3q rfl g2
    obtain ⟨_, _, _, _, _, _, ⟨b0, b1⟩, ⟨c0, c1⟩⟩ := pOk_spec hc ho
    obtain ⟨_, _, _, _, _, _, ⟨b0q, b1q⟩, ⟨c0q, c1q⟩⟩ := pOk_spec hq hoq
    obtain ⟨n1, n2, n3, n4, n5, n6⟩ := node_facts hc ho
    obtain ⟨n1q, n2q, n3q, n4q, n5q, n6q⟩ := node_facts hq hoq
    obtain ⟨_, s2⟩ := node_size hc ho
    obtain ⟨_, s2q⟩ := node_size hq hoq
    have b0 : 1 ≤ v.b := b0
    have b1 : v.b ≤ 12 := b1
    have c0 : 0 ≤ v.g := c0
    have c1 : v.g ≤ 63 := c1
    have b0q : 1 ≤ v.bq := b0q
    have b1q : v.bq ≤ 12 := b1q
    have c0q : 0 ≤ v.gq := c0q
    have c1q : v.gq ≤ 63 := c1q
    have n1 : v.g + v.b ≤ 64 := n1
    have n1q : v.gq + v.bq ≤ 64 := n1q
    have n4 : 0 ≤ v.a := n4
    have n5 : v.a % 32 = 0 := n5
    have n6 : v.a + ((2 ^ v.b.toNat : Nat) : Int) * 32 ≤ 4294967296 := n6
    have n4q : 0 ≤ v.aq := n4q
    have n5q : v.aq % 32 = 0 := n5q
    have n6q : v.aq + ((2 ^ v.bq.toNat : Nat) : Int) * 32 ≤ 4294967296 := n6q
    have ha : f15_17 v = v.a + (I : Int) * 32 := ha
    have hb : f15_19 v = v.aq + (K : Int) * 32 := hb
    have hI : I < 2 ^ v.b.toNat := hI
    have hK : K < 2 ^ v.bq.toNat := hK
    have hU2 : U64 (f15_19 v) := by rw [hb]; exact ⟨by omega, by omega⟩
    obtain ⟨k0, N, hN, hxN, k2, k3, k4⟩ := number_at hc ho hU (by rw [ha]; omega) (by rw [ha]; show v.a ≤ _; omega) (by rw [ha]; show _ < v.a + ((2 ^ v.b.toNat : Nat) : Int) * 32; omega) (f77_8 (f15_20 v)) rfl rfl s2
    obtain ⟨k0q, Q, hQ, hxQ, k2q, k3q, k4q⟩ := number_at hq hoq hU2 (by rw [hb]; omega) (by rw [hb]; show v.aq ≤ _; omega) (by rw [hb]; show _ < v.aq + ((2 ^ v.bq.toNat : Nat) : Int) * 32; omega) (f77_11 (f15_20 v)) rfl rfl s2q
    have k3 : f49_3 (f77_8 (f15_20 v)) = v.g + v.b := k3
    have k3q : f49_3 (f77_11 (f15_20 v)) = v.gq + v.bq := k3q
    have hxN : f15_17 v = v.a + (N : Int) * 32 := hxN
    have hxQ : f15_19 v = v.aq + (Q : Int) * 32 := hxQ
    have e9 : f77_9 (f15_20 v) = 0 := k4
    have e12 : f77_12 (f15_20 v) = 0 := k4q
    have e10 : f77_10 (f15_20 v) = false := by unfold f77_10; rw [e9]; rfl
    have e13 : f77_13 (f15_20 v) = false := by unfold f77_13; rw [e12]; rfl
    have e14 : f77_14 (f15_20 v) = v.gq + v.bq := k3q
    have e15 : f77_15 (f15_20 v) = v.g + v.b + v.gq + v.bq := by
      unfold f77_15
      rw [k3, e14, wi (by omega) (by omega)]
      omega
    have e21 : f15_21 v = v.g + v.b + v.gq + v.bq := by
      unfold f15_21
      rw [wi (x := v.g + v.b) (by omega) (by omega), wi (x := v.g + v.b + v.gq) (by omega) (by omega), wi (by omega) (by omega)]
    have e16 : f77_16 (f15_20 v) = f15_22 v := by unfold f77_16 f15_22; rw [e15, e21]
    refine ⟨⟨k0, k0q, fun _ _ _ => by rw [e14]; omega⟩, ?_⟩
    unfold f15_14
    rw [h18]
    simp only [cnd_f]
    cases h22 : f15_22 v with
    | true =>
      rw [h22] at e16
      unfold f15_29 f15_30 f77_7 f77_5 f77_6
      rw [e10, e13, e16]
      rfl
    | false =>
      rw [h22] at e16
      have hT : v.g + v.b + v.gq + v.bq ≤ 64 := by
        unfold f15_22 at h22
        rw [e21] at h22
        have := of_decide_eq_false h22
        omega
      have e31 : f15_31 v = true := by
        unfold f15_31 f77_7
        rw [e10, e13, e16]
        rfl
      rw [e31]
      simp only [cnd_f, cnd_t]
      cases h28 : f15_28 v with
      | true => rfl
      | false =>
        unfold f15_28 at h28
        simp only [cnd_or, Bool.or_eq_false_iff, Bool.not_eq_false', Bool.and_eq_true, beq_iff_eq, bne_eq_false_iff_eq] at h28
        obtain ⟨_, r1, r2, r3, r4, r5, r6, r7, _⟩ := h28
        have e30 : f15_30 v = v.g + v.b + v.gq + v.bq := by
          unfold f15_30 f77_6
          rw [e10, e13, e16, e15]
          rfl
        have hL : (v.gq + v.bq).toNat ≤ 63 := by omega
        obtain ⟨w1, w2⟩ := own_lt hc ho hN
        obtain ⟨w1q, w2q⟩ := own_lt hq hoq hQ
        have w1 : own ⟨v.k, v.a, v.b, v.r, v.g, v.s, v.m, 0, 0, 0⟩ N < 2 ^ (v.g + v.b).toNat := w1
        have w1q : own ⟨v.kq, v.aq, v.bq, v.rq, v.gq, v.sq, v.mq, 0, 0, 0⟩ Q < 2 ^ (v.gq + v.bq).toNat := w1q
        have i1 := own_at hc ho hN (own ⟨v.k, v.a, v.b, v.r, v.g, v.s, v.m, 0, 0, 0⟩ N)
        have i2 := (i1.2 (own_mod hc ho hN))
        have e29 : f15_29 v = ((own ⟨v.k, v.a, v.b, v.r, v.g, v.s, v.m, 0, 0, 0⟩ N * 2 ^ (v.gq + v.bq).toNat + own ⟨v.kq, v.aq, v.bq, v.rq, v.gq, v.sq, v.mq, 0, 0, 0⟩ Q : Nat) : Int) ∧
            own ⟨v.k, v.a, v.b, v.r, v.g, v.s, v.m, 0, 0, 0⟩ N * 2 ^ (v.gq + v.bq).toNat + own ⟨v.kq, v.aq, v.bq, v.rq, v.gq, v.sq, v.mq, 0, 0, 0⟩ Q < 18446744073709551616 := by
          have iq := own_at hq hoq hQ (own ⟨v.k, v.a, v.b, v.r, v.g, v.s, v.m, 0, 0, 0⟩ N * 2 ^ (v.gq + v.bq).toNat + own ⟨v.kq, v.aq, v.bq, v.rq, v.gq, v.sq, v.mq, 0, 0, 0⟩ Q)
          clear iq
          unfold f15_29 f77_5
          rw [e10, e13, e16, e14, k2, k2q]
          simp only [cnd_f]
          generalize own ⟨v.k, v.a, v.b, v.r, v.g, v.s, v.m, 0, 0, 0⟩ N = A at w1 ⊢
          generalize own ⟨v.kq, v.aq, v.bq, v.rq, v.gq, v.sq, v.mq, 0, 0, 0⟩ Q = B at w1q w2q ⊢
          have em : Min.min (v.gq + v.bq).toNat 64 = (v.gq + v.bq).toNat := by omega
          have hlt : A * 2 ^ (v.gq + v.bq).toNat + B < 2 ^ 64 := by
            have h1 : (A + 1) * 2 ^ (v.gq + v.bq).toNat ≤ 2 ^ (v.g + v.b).toNat * 2 ^ (v.gq + v.bq).toNat := Nat.mul_le_mul_right _ w1
            rw [← Nat.pow_add] at h1
            have h2 : 2 ^ ((v.g + v.b).toNat + (v.gq + v.bq).toNat) ≤ 2 ^ 64 := Nat.pow_le_pow_right (by omega) (by omega)
            rw [Nat.add_mul, Nat.one_mul] at h1
            omega
          have h64 : (2 : Nat) ^ 64 = 18446744073709551616 := by decide
          rw [h64] at hlt
          have ep : (A : Int) * (2 : Int) ^ (v.gq + v.bq).toNat = ((A * 2 ^ (v.gq + v.bq).toNat : Nat) : Int) := by simp
          have hor := Nat.two_pow_add_eq_or_of_lt w1q A
          rw [Nat.mul_comm] at hor
          rw [em, ep]
          generalize hY : A * 2 ^ (v.gq + v.bq).toNat = Y at hlt hor ⊢
          rw [wrap_u64_id (by omega) (by omega), u64_or_nat _ _ (by omega) (by omega), ← hor]
          exact ⟨rfl, hlt⟩
        obtain ⟨e29, hW⟩ := e29
        obtain ⟨j1, j2⟩ := join_num (B := own ⟨v.k, v.a, v.b, v.r, v.g, v.s, v.m, 0, 0, 0⟩ N) w1q
        obtain ⟨p1, p2⟩ := (own_at hq hoq hQ (own ⟨v.k, v.a, v.b, v.r, v.g, v.s, v.m, 0, 0, 0⟩ N * 2 ^ (v.gq + v.bq).toNat + own ⟨v.kq, v.aq, v.bq, v.rq, v.gq, v.sq, v.mq, 0, 0, 0⟩ Q)).2 j2
        generalize hWd : own ⟨v.k, v.a, v.b, v.r, v.g, v.s, v.m, 0, 0, 0⟩ N * 2 ^ (v.gq + v.bq).toNat + own ⟨v.kq, v.aq, v.bq, v.rq, v.gq, v.sq, v.mq, 0, 0, 0⟩ Q = W at e29 hW j1 j2 p1 p2
        obtain ⟨i2a, i2b⟩ := i2
        have hpM : pM ⟨v.k, v.a, v.b, v.r, v.g, v.s, v.m, 0, 0, 0⟩ W (v.g + v.b + v.gq + v.bq) = true := by
          unfold pM at i2a ⊢
          have x1 : (v.g + v.b + v.gq + v.bq - v.g).toNat = (v.gq + v.bq).toNat + (v.g + v.b - v.g).toNat := by omega
          show ((W / 2 ^ (v.g + v.b + v.gq + v.bq - v.g).toNat % 2 ^ v.g.toNat : Nat) : Int) == v.m
          rw [x1, Nat.pow_add, ← Nat.div_div_eq_div_mul, j1]
          exact i2a
        have hpX : pX ⟨v.k, v.a, v.b, v.r, v.g, v.s, v.m, 0, 0, 0⟩ W (v.g + v.b + v.gq + v.bq) = f15_17 v := by
          rw [hxN]
          unfold pX at i2b ⊢
          have x1 : (v.g + v.b + v.gq + v.bq - v.g - v.b).toNat = (v.gq + v.bq).toNat + (v.g + v.b - v.g - v.b).toNat := by omega
          show v.a + ((W / 2 ^ (v.g + v.b + v.gq + v.bq - v.g - v.b).toNat % 2 ^ v.b.toNat : Nat) : Int) * 32 = _
          rw [x1, Nat.pow_add, ← Nat.div_div_eq_div_mul, j1]
          exact i2b
        have hcap : capS (ld (f15_26 v) (pX ⟨v.k, v.a, v.b, v.r, v.g, v.s, v.m, 0, 0, 0⟩ W (v.g + v.b + v.gq + v.bq))) = ⟨v.kq, v.aq, v.bq, v.rq, v.gq, v.sq, v.mq, 0, 0, 0⟩ := by
          rw [hpX]
          have : ld (f15_26 v) (f15_17 v) = f15_27 v := rfl
          rw [this]
          unfold capS
          rw [r1, r2, r3, r4, r5, r6, r7]
        obtain ⟨t1, t2⟩ := fd_two (y := ⟨v.kq, v.aq, v.bq, v.rq, v.gq, v.sq, v.mq, 0, 0, 0⟩) hM1 hc ho hoq hW hT hpM hcap
        have t1 : fdE (f15_26 v) ⟨v.k, v.a, v.b, v.r, v.g, v.s, v.m, 0, 0, 0⟩ W (v.g + v.b + v.gq + v.bq) = _ := t1
        have t2 : fdA (f15_26 v) ⟨v.k, v.a, v.b, v.r, v.g, v.s, v.m, 0, 0, 0⟩ W (v.g + v.b + v.gq + v.bq) = _ := t2
        have e32 : f15_32 v = ⟨v.k, v.a, v.b, v.r, v.g, v.s, v.m, 0, 0, 0⟩ := rfl
        rw [e30, e29, e32, t1, t2, p1, p2, hxQ]
        simp [cnd]
  cases h18 : f15_18 v with
  | true =>
    refine ⟨?_, by unfold f15_14; rw [h18]; rfl⟩
    unfold f15
    simp only [Tr.ok]
    refine ⟨trivial, fun _ => trivial, fun _ => trivial, ?_⟩
    (repeat' apply And.intro) <;> first | trivial | (intro _ h; rw [h18] at h; cases h)
  | false =>
    obtain ⟨⟨m1, m2, m3⟩, m4⟩ := main h18
    obtain ⟨hM1, hU, hp⟩ := hM h18
    refine ⟨?_, m4⟩
    unfold f15
    simp only [Tr.ok]
    refine ⟨trivial, fun _ => trivial, fun _ => trivial, fun _ _ => ⟨⟨rfl, (by show (1:Nat) ≤ 1000; omega)⟩, hp⟩, fun _ _ _ => trivial, fun _ _ _ => m1, fun _ _ _ _ => trivial, fun _ _ _ _ => m2, fun _ _ _ => m3, fun _ _ _ _ => hU, fun _ _ _ _ _ => ⟨hc, hM1⟩, trivial⟩
end Go.Sx.M

namespace Go.Sx.M
open Go Go.Sx Go.Proofs Go.RowKit
set_option maxRecDepth 100000
def pre15 (v : V15) : Prop := SlR ⟨v.k, v.a, v.b, v.r, v.g, v.s, v.m, 0, 0, 0⟩ ∧ SlR ⟨v.kq, v.aq, v.bq, v.rq, v.gq, v.sq, v.mq, 0, 0, 0⟩
theorem n15 (v : V15) (h : pre15 v) : (f15 v).ok ∧ (f15 v).get.1 = .bool true ∧ HOws (f15 v).get.2.1 [] := by
  obtain ⟨k1, k2⟩ := law15_true v h.1 h.2
  exact ⟨k1, congrArg SV.bool k2, .refl _⟩
noncomputable def f15n (v : V15) : Tr (Fin th.R) := .need (pre15 v) (.leaf (.bool true, [], []))
theorem s15n : Sound Try.prog th 15 (fnC d15 ofV15 f15n) := fnC_refine s15 fun v h => by
  obtain ⟨hp, _⟩ := h
  obtain ⟨a, b, c⟩ := n15 v hp
  exact ⟨a, b.symm, (qdd15 v).symm, c, by show 0 ≤ 0; decide⟩
theorem claw15 (v : V15) : fnC d15 ofV15 f15n (A15 v) (H15 v) = some ((f15n v).map (fixF (H15 v))) := by kernel_rfl
end Go.Sx.M

