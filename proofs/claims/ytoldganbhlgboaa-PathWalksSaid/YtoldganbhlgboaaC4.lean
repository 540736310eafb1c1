/- Contracts of the functions of this seat, each by the executor and the kernel; part 4. Their conditions stand in each. -/
import Derived.Test.YtoldganbhlgboaaC3
set_option linter.unusedVariables false
set_option linter.unusedSimpArgs false
namespace Go.Sx.M
open Go Go.Sx Go.Proofs Go.RowKit
set_option maxRecDepth 100000
structure V39o where
  k : Int
  a : Int
  b : Int
  r : Int
  g : Int
  s : Int
  m : Int
  w : Int
  l : Int
  f : Int
  c : Int
  M : th.R
def A39o (v : V39o) : List SV := [.ptr 0 0, .agg [.int .i64 v.k, .int .u64 v.a, .int .i64 v.b, .int .i64 v.r, .int .i64 v.g, .int .i64 v.s, .int .u64 v.m], .int .u64 v.w, .int .i64 v.l]
def H39o (v : V39o) : List (HO th.R) := [.cells 175 [.ptr 1 0, .int .u64 v.f, .int .i64 v.c], .res v.M]
def toV39o (v : V39o) : List (Vl th.R) := [.i v.k, .i v.a, .i v.b, .i v.r, .i v.g, .i v.s, .i v.m, .i v.w, .i v.l, .i v.f, .i v.c, .r v.M]
def ofV39o : List (Vl th.R) → Option V39o
  | [.i k, .i a, .i b, .i r, .i g, .i s, .i m, .i w, .i l, .i f, .i c, .r M] => some ⟨k, a, b, r, g, s, m, w, l, f, c, M⟩
  | _ => none
def d39o : Ft := ⟨[.ptr 0 0, .agg [.int .i64, .int .u64, .int .i64, .int .i64, .int .i64, .int .i64, .int .u64], .int .u64, .int .i64], [.cells 175 [.ptr 1 0, .int .u64, .int .i64], .res]⟩
noncomputable def f39o_3 (v : V39o) : (Sl) := Sl.mk v.k v.a v.b v.r v.g v.s v.m (0 : Int) (0 : Int) (0 : Int)
noncomputable def f39o_4 (v : V39o) : (Int) := pNa (f39o_3 v)
noncomputable def f39o_5 (v : V39o) : (Int) := pNb (f39o_3 v)
noncomputable def f39o_6 (v : V39o) : (Int) := pNg (f39o_3 v)
noncomputable def f39o_7 (v : V39o) : (Int) := pNm (f39o_3 v)
noncomputable def f39o_0 (v : V39o) : (Prop) := pre111o (V111o.mk v.k v.a v.b v.r v.g v.s v.m v.w v.l v.f v.c v.M)
noncomputable def f39o_1 (v : V39o) : (Prop) := pre112 (V112.mk (f39o_4 v) (f39o_5 v) (f39o_6 v) (f39o_7 v) v.w v.l (0 : Int) v.f v.c v.M)
noncomputable def f39o_2 (v : V39o) : (Int) := (wkM (fun (a : Int) => capS (ld v.M a)) v.w (v.l.toNat + (1 : Nat)) v.l (0 : Int) (f39o_4 v) (f39o_5 v) (f39o_6 v) (f39o_7 v)).c
noncomputable def ff39o (v : V39o) : Tr (Fin th.R) := (Tr.need (f39o_0 v) (Tr.need (f39o_1 v) (Tr.leaf (SV.int .i64 (f39o_2 v), [(HO.cells (175 : Nat) [(SV.ptr (1 : Nat) (0:Nat)), SV.int .u64 (v.f), SV.int .i64 (v.c)]), HO.res (v.M)], List.nil))))
noncomputable def f39o (v : V39o) : Tr (Fin th.R) := (Tr.need (f39o_0 v) (Tr.need (f39o_1 v) (Tr.leaf (SV.int .i64 (f39o_2 v), [(HO.cells (175 : Nat) [(SV.ptr (1 : Nat) (0:Nat)), SV.int .u64 (v.f), SV.int .i64 (v.c)]), HO.res (v.M)], []))))
noncomputable def C39o : CF th.R := fnC d39o ofV39o (f39o )
theorem q39o (v : V39o) : (evFn th Try.prog (auto th Try.prog nice111on [] 20) (autoH [] [] [22] [] : Hints th) 39) (A39o v) (H39o v) = some (ff39o v) := by kernel_rfl
theorem qg39o (v : V39o) : ((ff39o v).map (setD [])).get = (f39o v).get := by kernel_rfl
theorem qd39o (v : V39o) : allD 2 [] (ff39o v) = true := by kernel_rfl
theorem s39o : Sound Try.prog th 39 (C39o ) := fnC_sound (evFn_sound' (T := th) (P := Try.prog) (tbl := (auto th Try.prog nice111on [] 20)) (auto_sound (nice := nice111on) (us := []) nok111on 20) (H := (autoH [] [] [22] [] : Hints th)) (k := 39) (fnLoops (LoopsOk_mem (fun _ => rfl) _ fun _ _ _ e => by cases e))) d39o A39o H39o toV39o (by kernel_rfl) (fun v => by kernel_rfl)
  (fun l v h => by
    unfold ofV39o at h
    split at h
    · cases h; rfl
    · cases h)
  [] (fun v => ⟨ff39o v, q39o v, id, qg39o v, qd39o v⟩)
end Go.Sx.M

namespace Go.Sx.M
open Go Go.Sx Go.Proofs Go.RowKit
set_option maxRecDepth 100000
structure V37a where
  k : Int
  a : Int
  b : Int
  r : Int
  g : Int
  s : Int
  m : Int
  w : Int
  l : Int
  f : Int
  c : Int
  M : th.R
def A37a (v : V37a) : List SV := [.ptr 0 0, .agg [.int .i64 v.k, .int .u64 v.a, .int .i64 v.b, .int .i64 v.r, .int .i64 v.g, .int .i64 v.s, .int .u64 v.m], .int .u64 v.w, .int .i64 v.l]
def H37a (v : V37a) : List (HO th.R) := [.cells 175 [.ptr 1 0, .int .u64 v.f, .int .i64 v.c], .res v.M]
def toV37a (v : V37a) : List (Vl th.R) := [.i v.k, .i v.a, .i v.b, .i v.r, .i v.g, .i v.s, .i v.m, .i v.w, .i v.l, .i v.f, .i v.c, .r v.M]
def ofV37a : List (Vl th.R) → Option V37a
  | [.i k, .i a, .i b, .i r, .i g, .i s, .i m, .i w, .i l, .i f, .i c, .r M] => some ⟨k, a, b, r, g, s, m, w, l, f, c, M⟩
  | _ => none
def d37a : Ft := ⟨[.ptr 0 0, .agg [.int .i64, .int .u64, .int .i64, .int .i64, .int .i64, .int .i64, .int .u64], .int .u64, .int .i64], [.cells 175 [.ptr 1 0, .int .u64, .int .i64], .res]⟩
noncomputable def f37a_0 (v : V37a) : (Prop) := pre111a (V111a.mk v.k v.a v.b v.r v.g v.s v.m v.w v.l v.f v.c v.M)
noncomputable def ff37a (v : V37a) : Tr (Fin th.R) := (Tr.need (f37a_0 v) (Tr.leaf ((SV.tup [(SV.int .u64 (0 : Int)), (SV.int .i64 (0 : Int)), (SV.int .i64 (12 : Int))]), [(HO.cells (175 : Nat) [(SV.ptr (1 : Nat) (0:Nat)), SV.int .u64 (v.f), SV.int .i64 (v.c)]), HO.res (v.M)], List.nil)))
noncomputable def f37a (v : V37a) : Tr (Fin th.R) := (Tr.need (f37a_0 v) (Tr.leaf ((SV.tup [(SV.int .u64 (0 : Int)), (SV.int .i64 (0 : Int)), (SV.int .i64 (12 : Int))]), [(HO.cells (175 : Nat) [(SV.ptr (1 : Nat) (0:Nat)), SV.int .u64 (v.f), SV.int .i64 (v.c)]), HO.res (v.M)], [])))
noncomputable def C37a : CF th.R := fnC d37a ofV37a (f37a )
theorem q37a (v : V37a) : (evFn th Try.prog (auto th Try.prog nice111an [] 20) (autoH [] [] [24] [] : Hints th) 37) (A37a v) (H37a v) = some (ff37a v) := by kernel_rfl
theorem qg37a (v : V37a) : ((ff37a v).map (setD [])).get = (f37a v).get := by kernel_rfl
theorem qd37a (v : V37a) : allD 2 [] (ff37a v) = true := by kernel_rfl
theorem s37a : Sound Try.prog th 37 (C37a ) := fnC_sound (evFn_sound' (T := th) (P := Try.prog) (tbl := (auto th Try.prog nice111an [] 20)) (auto_sound (nice := nice111an) (us := []) nok111an 20) (H := (autoH [] [] [24] [] : Hints th)) (k := 37) (fnLoops (LoopsOk_mem (fun _ => rfl) _ fun _ _ _ e => by cases e))) d37a A37a H37a toV37a (by kernel_rfl) (fun v => by kernel_rfl)
  (fun l v h => by
    unfold ofV37a at h
    split at h
    · cases h; rfl
    · cases h)
  [] (fun v => ⟨ff37a v, q37a v, id, qg37a v, qd37a v⟩)
end Go.Sx.M

namespace Go.Sx.M
open Go Go.Sx Go.Proofs Go.RowKit
set_option maxRecDepth 100000
structure V37b where
  k : Int
  a : Int
  b : Int
  r : Int
  g : Int
  s : Int
  m : Int
  w : Int
  l : Int
  f : Int
  c : Int
  M : th.R
def A37b (v : V37b) : List SV := [.ptr 0 0, .agg [.int .i64 v.k, .int .u64 v.a, .int .i64 v.b, .int .i64 v.r, .int .i64 v.g, .int .i64 v.s, .int .u64 v.m], .int .u64 v.w, .int .i64 v.l]
def H37b (v : V37b) : List (HO th.R) := [.cells 175 [.ptr 1 0, .int .u64 v.f, .int .i64 v.c], .res v.M]
def toV37b (v : V37b) : List (Vl th.R) := [.i v.k, .i v.a, .i v.b, .i v.r, .i v.g, .i v.s, .i v.m, .i v.w, .i v.l, .i v.f, .i v.c, .r v.M]
def ofV37b : List (Vl th.R) → Option V37b
  | [.i k, .i a, .i b, .i r, .i g, .i s, .i m, .i w, .i l, .i f, .i c, .r M] => some ⟨k, a, b, r, g, s, m, w, l, f, c, M⟩
  | _ => none
def d37b : Ft := ⟨[.ptr 0 0, .agg [.int .i64, .int .u64, .int .i64, .int .i64, .int .i64, .int .i64, .int .u64], .int .u64, .int .i64], [.cells 175 [.ptr 1 0, .int .u64, .int .i64], .res]⟩
noncomputable def f37b_0 (v : V37b) : (Prop) := pre111b (V111b.mk v.k v.a v.b v.r v.g v.s v.m v.w v.l v.f v.c v.M)
noncomputable def ff37b (v : V37b) : Tr (Fin th.R) := (Tr.need (f37b_0 v) (Tr.leaf ((SV.tup [(SV.int .u64 (0 : Int)), (SV.int .i64 (0 : Int)), (SV.int .i64 (20 : Int))]), [(HO.cells (175 : Nat) [(SV.ptr (1 : Nat) (0:Nat)), SV.int .u64 (v.f), SV.int .i64 (v.c)]), HO.res (v.M)], List.nil)))
noncomputable def f37b (v : V37b) : Tr (Fin th.R) := (Tr.need (f37b_0 v) (Tr.leaf ((SV.tup [(SV.int .u64 (0 : Int)), (SV.int .i64 (0 : Int)), (SV.int .i64 (20 : Int))]), [(HO.cells (175 : Nat) [(SV.ptr (1 : Nat) (0:Nat)), SV.int .u64 (v.f), SV.int .i64 (v.c)]), HO.res (v.M)], [])))
noncomputable def C37b : CF th.R := fnC d37b ofV37b (f37b )
theorem q37b (v : V37b) : (evFn th Try.prog (auto th Try.prog nice111bn [] 20) (autoH [] [] [24] [] : Hints th) 37) (A37b v) (H37b v) = some (ff37b v) := by kernel_rfl
theorem qg37b (v : V37b) : ((ff37b v).map (setD [])).get = (f37b v).get := by kernel_rfl
theorem qd37b (v : V37b) : allD 2 [] (ff37b v) = true := by kernel_rfl
theorem s37b : Sound Try.prog th 37 (C37b ) := fnC_sound (evFn_sound' (T := th) (P := Try.prog) (tbl := (auto th Try.prog nice111bn [] 20)) (auto_sound (nice := nice111bn) (us := []) nok111bn 20) (H := (autoH [] [] [24] [] : Hints th)) (k := 37) (fnLoops (LoopsOk_mem (fun _ => rfl) _ fun _ _ _ e => by cases e))) d37b A37b H37b toV37b (by kernel_rfl) (fun v => by kernel_rfl)
  (fun l v h => by
    unfold ofV37b at h
    split at h
    · cases h; rfl
    · cases h)
  [] (fun v => ⟨ff37b v, q37b v, id, qg37b v, qd37b v⟩)
end Go.Sx.M

namespace Go.Sx.M
open Go Go.Sx Go.Proofs Go.RowKit
set_option maxRecDepth 100000
structure V37o where
  k : Int
  a : Int
  b : Int
  r : Int
  g : Int
  s : Int
  m : Int
  w : Int
  l : Int
  f : Int
  c : Int
  M : th.R
def A37o (v : V37o) : List SV := [.ptr 0 0, .agg [.int .i64 v.k, .int .u64 v.a, .int .i64 v.b, .int .i64 v.r, .int .i64 v.g, .int .i64 v.s, .int .u64 v.m], .int .u64 v.w, .int .i64 v.l]
def H37o (v : V37o) : List (HO th.R) := [.cells 175 [.ptr 1 0, .int .u64 v.f, .int .i64 v.c], .res v.M]
def toV37o (v : V37o) : List (Vl th.R) := [.i v.k, .i v.a, .i v.b, .i v.r, .i v.g, .i v.s, .i v.m, .i v.w, .i v.l, .i v.f, .i v.c, .r v.M]
def ofV37o : List (Vl th.R) → Option V37o
  | [.i k, .i a, .i b, .i r, .i g, .i s, .i m, .i w, .i l, .i f, .i c, .r M] => some ⟨k, a, b, r, g, s, m, w, l, f, c, M⟩
  | _ => none
def d37o : Ft := ⟨[.ptr 0 0, .agg [.int .i64, .int .u64, .int .i64, .int .i64, .int .i64, .int .i64, .int .u64], .int .u64, .int .i64], [.cells 175 [.ptr 1 0, .int .u64, .int .i64], .res]⟩
noncomputable def f37o_5 (v : V37o) : (Sl) := Sl.mk v.k v.a v.b v.r v.g v.s v.m (0 : Int) (0 : Int) (0 : Int)
noncomputable def f37o_6 (v : V37o) : (Int) := pNa (f37o_5 v)
noncomputable def f37o_7 (v : V37o) : (Int) := pNb (f37o_5 v)
noncomputable def f37o_8 (v : V37o) : (Int) := pNg (f37o_5 v)
noncomputable def f37o_9 (v : V37o) : (Int) := pNm (f37o_5 v)
noncomputable def f37o_10 (v : V37o) : (Wr) := wkM (fun (a : Int) => capS (ld v.M a)) v.w (v.l.toNat + (1 : Nat)) v.l (0 : Int) (f37o_6 v) (f37o_7 v) (f37o_8 v) (f37o_9 v)
noncomputable def f37o_0 (v : V37o) : (Prop) := pre111o (V111o.mk v.k v.a v.b v.r v.g v.s v.m v.w v.l v.f v.c v.M)
noncomputable def f37o_1 (v : V37o) : (Prop) := pre112 (V112.mk (f37o_6 v) (f37o_7 v) (f37o_8 v) (f37o_9 v) v.w v.l (0 : Int) v.f v.c v.M)
noncomputable def f37o_2 (v : V37o) : (Int) := cnd (!(f37o_10 v).ok) (0 : Int) (f37o_10 v).s
noncomputable def f37o_3 (v : V37o) : (Int) := cnd (!(f37o_10 v).ok) (0 : Int) (f37o_10 v).l
noncomputable def f37o_4 (v : V37o) : (Int) := cnd (!(f37o_10 v).ok) (23 : Int) (0 : Int)
noncomputable def ff37o (v : V37o) : Tr (Fin th.R) := (Tr.need (f37o_0 v) (Tr.need (f37o_1 v) (Tr.leaf (SV.tup [SV.int .u64 (f37o_2 v), SV.int .i64 (f37o_3 v), SV.int .i64 (f37o_4 v)], [(HO.cells (175 : Nat) [(SV.ptr (1 : Nat) (0:Nat)), SV.int .u64 (v.f), SV.int .i64 (v.c)]), HO.res (v.M)], List.nil))))
noncomputable def f37o (v : V37o) : Tr (Fin th.R) := (Tr.need (f37o_0 v) (Tr.need (f37o_1 v) (Tr.leaf (SV.tup [SV.int .u64 (f37o_2 v), SV.int .i64 (f37o_3 v), SV.int .i64 (f37o_4 v)], [(HO.cells (175 : Nat) [(SV.ptr (1 : Nat) (0:Nat)), SV.int .u64 (v.f), SV.int .i64 (v.c)]), HO.res (v.M)], []))))
noncomputable def C37o : CF th.R := fnC d37o ofV37o (f37o )
theorem q37o (v : V37o) : (evFn th Try.prog (auto th Try.prog nice111on [] 20) (autoH [] [] [24] [] : Hints th) 37) (A37o v) (H37o v) = some (ff37o v) := by kernel_rfl
theorem qg37o (v : V37o) : ((ff37o v).map (setD [])).get = (f37o v).get := by kernel_rfl
theorem qd37o (v : V37o) : allD 2 [] (ff37o v) = true := by kernel_rfl
theorem s37o : Sound Try.prog th 37 (C37o ) := fnC_sound (evFn_sound' (T := th) (P := Try.prog) (tbl := (auto th Try.prog nice111on [] 20)) (auto_sound (nice := nice111on) (us := []) nok111on 20) (H := (autoH [] [] [24] [] : Hints th)) (k := 37) (fnLoops (LoopsOk_mem (fun _ => rfl) _ fun _ _ _ e => by cases e))) d37o A37o H37o toV37o (by kernel_rfl) (fun v => by kernel_rfl)
  (fun l v h => by
    unfold ofV37o at h
    split at h
    · cases h; rfl
    · cases h)
  [] (fun v => ⟨ff37o v, q37o v, id, qg37o v, qd37o v⟩)
end Go.Sx.M

namespace Go.Sx.M
open Go Go.Sx Go.Proofs Go.RowKit
set_option maxRecDepth 100000
/-- A walk in a tree, from any capability: the slot, what is left, its error. -/
noncomputable def wkW (M : Mem) (z : Sl) (w l : Int) : Wr := wkM (fun a => capS (ld M a)) w (l.toNat + 1) l 0 (pNa z) (pNb z) (pNg z) (pNm z)
noncomputable def wkA (M : Mem) (z : Sl) (w l : Int) : Int := cnd (bgE z l != 0) 0 (cnd (!(wkW M z w l).ok) 0 (wkW M z w l).s)
noncomputable def wkB (M : Mem) (z : Sl) (w l : Int) : Int := cnd (bgE z l != 0) 0 (cnd (!(wkW M z w l).ok) 0 (wkW M z w l).l)
noncomputable def wkE (M : Mem) (z : Sl) (w l : Int) : Int := cnd (bgE z l != 0) (bgE z l) (cnd (!(wkW M z w l).ok) 23 0)
abbrev V37 := V37a
abbrev d37 := d37a
abbrev ofV37 := ofV37a
def cp37 (v : V37) : Sl := ⟨v.k, v.a, v.b, v.r, v.g, v.s, v.m, 0, 0, 0⟩
noncomputable def lf37 (v : V37) : Tr (Fin th.R) := .leaf (.tup [.int .u64 (wkA v.M (cp37 v) v.w v.l), .int .i64 (wkB v.M (cp37 v) v.w v.l), .int .i64 (wkE v.M (cp37 v) v.w v.l)], [.cells 175 [.ptr 1 0, .int .u64 v.f, .int .i64 v.c], .res v.M], [])
def cb37 (v : V37) : V37b := ⟨v.k, v.a, v.b, v.r, v.g, v.s, v.m, v.w, v.l, v.f, v.c, v.M⟩
def co37 (v : V37) : V37o := ⟨v.k, v.a, v.b, v.r, v.g, v.s, v.m, v.w, v.l, v.f, v.c, v.M⟩
theorem hb37 (l : List (Vl th.R)) : ofV37b l = (ofV37 l).map cb37 := by
  unfold ofV37b ofV37 ofV37a
  split
  · rfl
  · rename_i hn
    first
    | rfl
    | (split
       · exact absurd rfl (hn _ _ _ _ _ _ _ _ _ _ _ _)
       · rfl)
theorem ho37 (l : List (Vl th.R)) : ofV37o l = (ofV37 l).map co37 := by
  unfold ofV37o ofV37 ofV37a
  split
  · rfl
  · rename_i hn
    first
    | rfl
    | (split
       · exact absurd rfl (hn _ _ _ _ _ _ _ _ _ _ _ _)
       · rfl)
theorem sb37 : Sound Try.prog th 37 (fnC d37 ofV37 (fun v => f37b (cb37 v))) := by
  have := s37b
  unfold C37b at this
  rw [fnC_conv (d := d37b) (ofV := ofV37) hb37] at this
  exact this
theorem so37 : Sound Try.prog th 37 (fnC d37 ofV37 (fun v => f37o (co37 v))) := by
  have := s37o
  unfold C37o at this
  rw [fnC_conv (d := d37o) (ofV := ofV37) ho37] at this
  exact this
theorem ra37 : Sound Try.prog th 37 (fnC d37 ofV37 (fun v => .need (lbad v.l = true) (lf37 v))) := fnC_refine s37a fun v h => by
  obtain ⟨h, _⟩ := h
  have e : bgE (cp37 v) v.l = 12 := by unfold bgE; rw [h]; rfl
  refine ⟨⟨h, trivial⟩, ?_, rfl, .refl _, by show 2 ≤ 2; decide⟩
  show SV.tup [.int .u64 (wkA v.M (cp37 v) v.w v.l), .int .i64 (wkB v.M (cp37 v) v.w v.l), .int .i64 (wkE v.M (cp37 v) v.w v.l)] = _
  unfold wkA wkB wkE
  rw [e]
  rfl
theorem rb37 : Sound Try.prog th 37 (fnC d37 ofV37 (fun v => .need (lbad v.l = false ∧ pOk (cp37 v) = false) (lf37 v))) := fnC_refine sb37 fun v h => by
  obtain ⟨⟨h1, h2⟩, _⟩ := h
  have e : bgE (cp37 v) v.l = 20 := by unfold bgE; rw [h1, h2]; rfl
  refine ⟨⟨⟨h1, h2⟩, trivial⟩, ?_, rfl, .refl _, by show 2 ≤ 2; decide⟩
  show SV.tup [.int .u64 (wkA v.M (cp37 v) v.w v.l), .int .i64 (wkB v.M (cp37 v) v.w v.l), .int .i64 (wkE v.M (cp37 v) v.w v.l)] = _
  unfold wkA wkB wkE
  rw [e]
  rfl
theorem ro37 : Sound Try.prog th 37 (fnC d37 ofV37 (fun v => .need (bgE (cp37 v) v.l = 0 ∧ SlR (cp37 v) ∧ MemR v.M) (lf37 v))) := fnC_refine so37 fun v h => by
  obtain ⟨⟨h1, h2, h3⟩, _⟩ := h
  obtain ⟨k1, k2, k3, k4⟩ := bgE_ok h1
  obtain ⟨_, _, _, e2, e3, _, e5, e6⟩ := pOk_spec h2 k2
  have hp : pnOk v.l (pNb (cp37 v)) (pNg (cp37 v)) := by rw [e2, e3]; exact ⟨⟨by omega, k4⟩, e5, e6⟩
  refine ⟨⟨h1, ⟨hp, h3⟩, trivial⟩, ?_, rfl, .refl _, by show 2 ≤ 2; decide⟩
  show SV.tup [.int .u64 (wkA v.M (cp37 v) v.w v.l), .int .i64 (wkB v.M (cp37 v) v.w v.l), .int .i64 (wkE v.M (cp37 v) v.w v.l)] = _
  unfold wkA wkB wkE
  rw [h1]
  rfl
def pre37 (v : V37) : Prop := SlR (cp37 v) ∧ MemR v.M
noncomputable def f37n (v : V37) : Tr (Fin th.R) := .need (pre37 v) (lf37 v)
theorem s37n : Sound Try.prog th 37 (fnC d37 ofV37 f37n) := by
  have h1 : Sound Try.prog th 37 (fnC d37 ofV37 (fun v => .need (bgE (cp37 v) v.l ≠ 0) (lf37 v))) := fnC_two ra37 rb37 fun v h => by
    obtain ⟨h, _⟩ := h
    cases hl : lbad v.l with
    | true => exact .inl ⟨⟨rfl, trivial⟩, rfl⟩
    | false =>
      refine .inr ⟨⟨⟨rfl, ?_⟩, trivial⟩, rfl⟩
      cases hp : pOk (cp37 v) with
      | false => rfl
      | true => exact absurd (by unfold bgE; rw [hl, hp]; rfl) h
  exact fnC_two h1 ro37 fun v h => by
    obtain ⟨⟨h2, h3⟩, _⟩ := h
    by_cases h : bgE (cp37 v) v.l = 0
    · exact .inr ⟨⟨⟨h, h2, h3⟩, trivial⟩, rfl⟩
    · exact .inl ⟨⟨h, trivial⟩, rfl⟩
noncomputable def nice37n : List (Nat × CF th.R) := (37, lift (fnC d37 ofV37 f37n)) :: nice112n
theorem nok37n : NiceOk Try.prog th nice37n := ⟨lift_sound s37n, nok112n⟩
end Go.Sx.M

namespace Go.Sx.M
open Go Go.Sx Go.Proofs Go.RowKit
set_option maxRecDepth 100000
structure V40 where
  k : Int
  a : Int
  b : Int
  r : Int
  g : Int
  s : Int
  m : Int
  w : Int
  l : Int
  f : Int
  c : Int
  M : th.R
def A40 (v : V40) : List SV := [.ptr 0 0, .agg [.int .i64 v.k, .int .u64 v.a, .int .i64 v.b, .int .i64 v.r, .int .i64 v.g, .int .i64 v.s, .int .u64 v.m], .int .u64 v.w, .int .i64 v.l]
def H40 (v : V40) : List (HO th.R) := [.cells 175 [.ptr 1 0, .int .u64 v.f, .int .i64 v.c], .res v.M]
def toV40 (v : V40) : List (Vl th.R) := [.i v.k, .i v.a, .i v.b, .i v.r, .i v.g, .i v.s, .i v.m, .i v.w, .i v.l, .i v.f, .i v.c, .r v.M]
def ofV40 : List (Vl th.R) → Option V40
  | [.i k, .i a, .i b, .i r, .i g, .i s, .i m, .i w, .i l, .i f, .i c, .r M] => some ⟨k, a, b, r, g, s, m, w, l, f, c, M⟩
  | _ => none
def d40 : Ft := ⟨[.ptr 0 0, .agg [.int .i64, .int .u64, .int .i64, .int .i64, .int .i64, .int .i64, .int .u64], .int .u64, .int .i64], [.cells 175 [.ptr 1 0, .int .u64, .int .i64], .res]⟩
noncomputable def f40_3 (v : V40) : (V37a) := V37a.mk v.k v.a v.b v.r v.g v.s v.m v.w v.l v.f v.c v.M
noncomputable def f40_4 (v : V40) : (Sl) := cp37 (f40_3 v)
noncomputable def f40_5 (v : V40) : (Int) := wkE v.M (f40_4 v) v.w v.l
noncomputable def f40_0 (v : V40) : (Prop) := pre37 (f40_3 v)
noncomputable def f40_1 (v : V40) : (Int) := cnd (f40_5 v != (0 : Int)) (0 : Int) (cnd (wkB v.M (f40_4 v) v.w v.l != (0 : Int)) (0 : Int) (wkA v.M (f40_4 v) v.w v.l))
noncomputable def f40_2 (v : V40) : (Int) := cnd (f40_5 v != (0 : Int)) (f40_5 v) (cnd (wkB v.M (f40_4 v) v.w v.l != (0 : Int)) (23 : Int) (0 : Int))
noncomputable def ff40 (v : V40) : Tr (Fin th.R) := (Tr.need (f40_0 v) (Tr.leaf (SV.tup [SV.int .u64 (f40_1 v), SV.int .i64 (f40_2 v)], [(HO.cells (175 : Nat) [(SV.ptr (1 : Nat) (0:Nat)), SV.int .u64 (v.f), SV.int .i64 (v.c)]), HO.res (v.M)], List.nil)))
noncomputable def f40 (v : V40) : Tr (Fin th.R) := (Tr.need (f40_0 v) (Tr.leaf (SV.tup [SV.int .u64 (f40_1 v), SV.int .i64 (f40_2 v)], [(HO.cells (175 : Nat) [(SV.ptr (1 : Nat) (0:Nat)), SV.int .u64 (v.f), SV.int .i64 (v.c)]), HO.res (v.M)], [])))
noncomputable def C40 : CF th.R := fnC d40 ofV40 (f40 )
theorem q40 (v : V40) : (evFn th Try.prog (auto th Try.prog nice37n [] 20) (autoH [] [] [] [] : Hints th) 40) (A40 v) (H40 v) = some (ff40 v) := by kernel_rfl
theorem qg40 (v : V40) : ((ff40 v).map (setD [])).get = (f40 v).get := by kernel_rfl
theorem qd40 (v : V40) : allD 2 [] (ff40 v) = true := by kernel_rfl
theorem s40 : Sound Try.prog th 40 (C40 ) := fnC_sound (evFn_sound' (T := th) (P := Try.prog) (tbl := (auto th Try.prog nice37n [] 20)) (auto_sound (nice := nice37n) (us := []) nok37n 20) (H := (autoH [] [] [] [] : Hints th)) (k := 40) (fnLoops (LoopsOk_mem (fun _ => rfl) _ fun _ _ _ e => by cases e))) d40 A40 H40 toV40 (by kernel_rfl) (fun v => by kernel_rfl)
  (fun l v h => by
    unfold ofV40 at h
    split at h
    · cases h; rfl
    · cases h)
  [] (fun v => ⟨ff40 v, q40 v, id, qg40 v, qd40 v⟩)
theorem qdd40 (v : V40) : (f40 v).get.2.2 = [] := by
  rw [← qg40, Tr.map_get]; rfl
end Go.Sx.M

namespace Go.Sx.M
open Go Go.Sx Go.Proofs Go.RowKit
set_option maxRecDepth 100000
noncomputable def fdA (M : Mem) (z : Sl) (w l : Int) : Int := cnd (wkE M z w l != 0) 0 (cnd (wkB M z w l != 0) 0 (wkA M z w l))
noncomputable def fdE (M : Mem) (z : Sl) (w l : Int) : Int := cnd (wkE M z w l != 0) (wkE M z w l) (cnd (wkB M z w l != 0) 23 0)
def pre40 (v : V40) : Prop := SlR (Sl.mk v.k v.a v.b v.r v.g v.s v.m 0 0 0) ∧ MemR v.M
theorem n40 (v : V40) (h : pre40 v) : (f40 v).ok ∧ (f40 v).get.1 = .tup [.int .u64 (fdA v.M (Sl.mk v.k v.a v.b v.r v.g v.s v.m 0 0 0) v.w v.l), .int .i64 (fdE v.M (Sl.mk v.k v.a v.b v.r v.g v.s v.m 0 0 0) v.w v.l)] ∧ HOws (f40 v).get.2.1 [HO.cells 175 [.ptr 1 0, .int .u64 (v.f), .int .i64 (v.c)], HO.res v.M] := by
  exact ⟨⟨h, trivial⟩, rfl, .refl _⟩
noncomputable def f40n (v : V40) : Tr (Fin th.R) := .need (pre40 v) (.leaf (.tup [.int .u64 (fdA v.M (Sl.mk v.k v.a v.b v.r v.g v.s v.m 0 0 0) v.w v.l), .int .i64 (fdE v.M (Sl.mk v.k v.a v.b v.r v.g v.s v.m 0 0 0) v.w v.l)], [.cells 175 [.ptr 1 0, .int .u64 (v.f), .int .i64 (v.c)], .res v.M], []))
theorem s40n : Sound Try.prog th 40 (fnC d40 ofV40 f40n) := fnC_refine s40 fun v h => by
  obtain ⟨hp, _⟩ := h
  obtain ⟨a, b, c⟩ := n40 v hp
  exact ⟨a, b.symm, (qdd40 v).symm, c, by show 2 ≤ 2; decide⟩
noncomputable def nice40n : List (Nat × CF th.R) := (40, lift (fnC d40 ofV40 f40n)) :: nice37n
theorem nok40n : NiceOk Try.prog th nice40n := ⟨lift_sound s40n, nok37n⟩
end Go.Sx.M

namespace Go.Sx.M
open Go Go.Sx Go.Proofs Go.RowKit
set_option maxRecDepth 100000
structure V35 where
def A35 (v : V35) : List SV := []
def H35 (v : V35) : List (HO th.R) := []
def toV35 (v : V35) : List (Vl th.R) := []
def ofV35 : List (Vl th.R) → Option V35
  | [] => some ⟨⟩
  | _ => none
def d35 : Ft := ⟨[], []⟩
noncomputable def f35_0 (v : V35) : (Prop) := ∀ (i : Nat), scpL (0:Nat) (rowEl (1 : Nat) (8 : Nat) (setMany (List.map (fun (i : Nat) => [SV.int IntKind.u64 (0 : Int), SV.int IntKind.i64 (0 : Int), SV.int IntKind.u64 (0 : Int), SV.int IntKind.i64 (0 : Int), SV.int IntKind.i64 (0 : Int), SV.int IntKind.i64 (0 : Int), SV.int IntKind.i64 (0 : Int), SV.int IntKind.u64 (0 : Int)].getD (i % (8 : Nat)) Inhabited.default) (List.range (8 : Nat))) (0:Nat) (SV.agg (setMany (setMany [SV.int IntKind.u64 (0 : Int), SV.int IntKind.i64 (0 : Int), SV.int IntKind.u64 (0 : Int), SV.int IntKind.i64 (0 : Int), SV.int IntKind.i64 (0 : Int), SV.int IntKind.i64 (0 : Int), SV.int IntKind.i64 (0 : Int), SV.int IntKind.u64 (0 : Int)] (0:Nat) (SV.int IntKind.u64 (352 : Int)).cells) (1 : Nat) (SV.agg (setMany (setMany (setMany (setMany (setMany [SV.int IntKind.i64 (0 : Int), SV.int IntKind.u64 (0 : Int), SV.int IntKind.i64 (0 : Int), SV.int IntKind.i64 (0 : Int), SV.int IntKind.i64 (0 : Int), SV.int IntKind.i64 (0 : Int), SV.int IntKind.u64 (0 : Int)] (0:Nat) (SV.int IntKind.i64 (2 : Int)).cells) (1 : Nat) (SV.int IntKind.u64 (512 : Int)).cells) (2 : Nat) (SV.int IntKind.i64 (3 : Int)).cells) (4 : Nat) (SV.int IntKind.i64 (1 : Int)).cells) (6 : Nat) (SV.int IntKind.u64 (1 : Int)).cells)).cells)).cells) i) = true
noncomputable def f35_1 (v : V35) : (Prop) := ∀ (i : Nat), i < (1 : Nat) → rowEl (1 : Nat) (8 : Nat) (setMany (List.map (fun (i : Nat) => [SV.int IntKind.u64 (0 : Int), SV.int IntKind.i64 (0 : Int), SV.int IntKind.u64 (0 : Int), SV.int IntKind.i64 (0 : Int), SV.int IntKind.i64 (0 : Int), SV.int IntKind.i64 (0 : Int), SV.int IntKind.i64 (0 : Int), SV.int IntKind.u64 (0 : Int)].getD (i % (8 : Nat)) Inhabited.default) (List.range (8 : Nat))) (0:Nat) (SV.agg (setMany (setMany [SV.int IntKind.u64 (0 : Int), SV.int IntKind.i64 (0 : Int), SV.int IntKind.u64 (0 : Int), SV.int IntKind.i64 (0 : Int), SV.int IntKind.i64 (0 : Int), SV.int IntKind.i64 (0 : Int), SV.int IntKind.i64 (0 : Int), SV.int IntKind.u64 (0 : Int)] (0:Nat) (SV.int IntKind.u64 (352 : Int)).cells) (1 : Nat) (SV.agg (setMany (setMany (setMany (setMany (setMany [SV.int IntKind.i64 (0 : Int), SV.int IntKind.u64 (0 : Int), SV.int IntKind.i64 (0 : Int), SV.int IntKind.i64 (0 : Int), SV.int IntKind.i64 (0 : Int), SV.int IntKind.i64 (0 : Int), SV.int IntKind.u64 (0 : Int)] (0:Nat) (SV.int IntKind.i64 (2 : Int)).cells) (1 : Nat) (SV.int IntKind.u64 (512 : Int)).cells) (2 : Nat) (SV.int IntKind.i64 (3 : Int)).cells) (4 : Nat) (SV.int IntKind.i64 (1 : Int)).cells) (6 : Nat) (SV.int IntKind.u64 (1 : Int)).cells)).cells)).cells) i = elC (rowEl (1 : Nat) (8 : Nat) (setMany (List.map (fun (i : Nat) => [SV.int IntKind.u64 (0 : Int), SV.int IntKind.i64 (0 : Int), SV.int IntKind.u64 (0 : Int), SV.int IntKind.i64 (0 : Int), SV.int IntKind.i64 (0 : Int), SV.int IntKind.i64 (0 : Int), SV.int IntKind.i64 (0 : Int), SV.int IntKind.u64 (0 : Int)].getD (i % (8 : Nat)) Inhabited.default) (List.range (8 : Nat))) (0:Nat) (SV.agg (setMany (setMany [SV.int IntKind.u64 (0 : Int), SV.int IntKind.i64 (0 : Int), SV.int IntKind.u64 (0 : Int), SV.int IntKind.i64 (0 : Int), SV.int IntKind.i64 (0 : Int), SV.int IntKind.i64 (0 : Int), SV.int IntKind.i64 (0 : Int), SV.int IntKind.u64 (0 : Int)] (0:Nat) (SV.int IntKind.u64 (352 : Int)).cells) (1 : Nat) (SV.agg (setMany (setMany (setMany (setMany (setMany [SV.int IntKind.i64 (0 : Int), SV.int IntKind.u64 (0 : Int), SV.int IntKind.i64 (0 : Int), SV.int IntKind.i64 (0 : Int), SV.int IntKind.i64 (0 : Int), SV.int IntKind.i64 (0 : Int), SV.int IntKind.u64 (0 : Int)] (0:Nat) (SV.int IntKind.i64 (2 : Int)).cells) (1 : Nat) (SV.int IntKind.u64 (512 : Int)).cells) (2 : Nat) (SV.int IntKind.i64 (3 : Int)).cells) (4 : Nat) (SV.int IntKind.i64 (1 : Int)).cells) (6 : Nat) (SV.int IntKind.u64 (1 : Int)).cells)).cells)).cells)) (0:Nat) [Ck.int IntKind.u64, Ck.int IntKind.i64, Ck.int IntKind.u64, Ck.int IntKind.i64, Ck.int IntKind.i64, Ck.int IntKind.i64, Ck.int IntKind.i64, Ck.int IntKind.u64] i
noncomputable def f35_2 (v : V35) : (Prop) := pre36r (V36r.mk (1 : Nat) (1 : Nat) (fun (j : Nat) => (352 : Int)) (fun (j : Nat) => (2 : Int)) (fun (j : Nat) => (512 : Int)) (fun (j : Nat) => (3 : Int)) (fun (j : Nat) => (0 : Int)) (fun (j : Nat) => (1 : Int)) (fun (j : Nat) => (0 : Int)) fun (j : Nat) => (1 : Int))
noncomputable def f35_3 (v : V35) : (Prop) := (∀ (i : Nat), scpL (0:Nat) (rowEl (1 : Nat) (8 : Nat) (setMany (List.map (fun (i : Nat) => [SV.int IntKind.u64 (0 : Int), SV.int IntKind.i64 (0 : Int), SV.int IntKind.u64 (0 : Int), SV.int IntKind.i64 (0 : Int), SV.int IntKind.i64 (0 : Int), SV.int IntKind.i64 (0 : Int), SV.int IntKind.i64 (0 : Int), SV.int IntKind.u64 (0 : Int)].getD (i % (8 : Nat)) Inhabited.default) (List.range (8 : Nat))) (0:Nat) (SV.agg (setMany (setMany [SV.int IntKind.u64 (0 : Int), SV.int IntKind.i64 (0 : Int), SV.int IntKind.u64 (0 : Int), SV.int IntKind.i64 (0 : Int), SV.int IntKind.i64 (0 : Int), SV.int IntKind.i64 (0 : Int), SV.int IntKind.i64 (0 : Int), SV.int IntKind.u64 (0 : Int)] (0:Nat) (SV.int IntKind.u64 (352 : Int)).cells) (1 : Nat) (SV.agg (setMany (setMany (setMany (setMany (setMany [SV.int IntKind.i64 (0 : Int), SV.int IntKind.u64 (0 : Int), SV.int IntKind.i64 (0 : Int), SV.int IntKind.i64 (0 : Int), SV.int IntKind.i64 (0 : Int), SV.int IntKind.i64 (0 : Int), SV.int IntKind.u64 (0 : Int)] (0:Nat) (SV.int IntKind.i64 (2 : Int)).cells) (1 : Nat) (SV.int IntKind.u64 (512 : Int)).cells) (2 : Nat) (SV.int IntKind.i64 (3 : Int)).cells) (4 : Nat) (SV.int IntKind.i64 (1 : Int)).cells) (6 : Nat) (SV.int IntKind.u64 (1 : Int)).cells)).cells)).cells) i) = true) ∧ ∀ (i : Nat), scpL (0:Nat) ((fun (j : Nat) => ndC (gN (opS (nds (ndf (fun (j : Nat) => (352 : Int)) (fun (j : Nat) => (2 : Int)) (fun (j : Nat) => (512 : Int)) (fun (j : Nat) => (3 : Int)) (fun (j : Nat) => (0 : Int)) (fun (j : Nat) => (1 : Int)) (fun (j : Nat) => (0 : Int)) (fun (j : Nat) => (1 : Int)) fun (j : Nat) => (0 : Int)) (1 : Nat))).snd j)) i) = true
noncomputable def f35_4 (v : V35) : (Prop) := false = false → pre40 (V40.mk (2 : Int) (256 : Int) (2 : Int) (0 : Int) (62 : Int) (0 : Int) (0 : Int) (3 : Int) (64 : Int) (352 : Int) (1 : Int) (opS (nds (ndf (fun (j : Nat) => (352 : Int)) (fun (j : Nat) => (2 : Int)) (fun (j : Nat) => (512 : Int)) (fun (j : Nat) => (3 : Int)) (fun (j : Nat) => (0 : Int)) (fun (j : Nat) => (1 : Int)) (fun (j : Nat) => (0 : Int)) (fun (j : Nat) => (1 : Int)) fun (j : Nat) => (0 : Int)) (1 : Nat))).fst.M)
noncomputable def f35_5 (v : V35) : (Prop) := false = false → pre40 (V40.mk (2 : Int) (256 : Int) (2 : Int) (0 : Int) (62 : Int) (0 : Int) (0 : Int) (3 : Int) (62 : Int) (352 : Int) (1 : Int) (opS (nds (ndf (fun (j : Nat) => (352 : Int)) (fun (j : Nat) => (2 : Int)) (fun (j : Nat) => (512 : Int)) (fun (j : Nat) => (3 : Int)) (fun (j : Nat) => (0 : Int)) (fun (j : Nat) => (1 : Int)) (fun (j : Nat) => (0 : Int)) (fun (j : Nat) => (1 : Int)) fun (j : Nat) => (0 : Int)) (1 : Nat))).fst.M)
noncomputable def f35_6 (v : V35) : (Prop) := false = false → pre37 (V37a.mk (2 : Int) (256 : Int) (2 : Int) (0 : Int) (0 : Int) (0 : Int) (0 : Int) (61 : Int) (6 : Int) (352 : Int) (1 : Int) (opS (nds (ndf (fun (j : Nat) => (352 : Int)) (fun (j : Nat) => (2 : Int)) (fun (j : Nat) => (512 : Int)) (fun (j : Nat) => (3 : Int)) (fun (j : Nat) => (0 : Int)) (fun (j : Nat) => (1 : Int)) (fun (j : Nat) => (0 : Int)) (fun (j : Nat) => (1 : Int)) fun (j : Nat) => (0 : Int)) (1 : Nat))).fst.M)
theorem n_f35_0 (v : V35) : f35_0 v := by
  unfold f35_0
  first
    | (intros; rfl)
    | (intro i; rfl)
    | (intro i _; rfl)
    | (intro _ i; rfl)
    | (intro _ i _; rfl)
    | (refine ⟨?_, ?_⟩ <;> intro i <;> rfl)
    | (refine ⟨?_, ?_, ?_⟩ <;> intro i <;> rfl)
    | (refine ⟨?_, ?_⟩ <;> intro i _ <;> rfl)
    | (repeat' apply And.intro) <;> first | (intro i; rfl) | (intro i _; rfl) | (intro i h; exact absurd h (Nat.not_lt_zero i)) | (intro i; exact scpL_rowSet (by rfl) (by rfl)) | (intro i; exact scpL_rowEl (by kernel_rfl) _)
    | (intros; (repeat' apply And.intro) <;> intros <;> first | rfl | (exact absurd (by assumption) (Nat.not_lt_zero _)))
    | omega
    | decide
theorem n_f35_1 (v : V35) : f35_1 v := by
  unfold f35_1
  first
    | (intros; rfl)
    | (intro i; rfl)
    | (intro i _; rfl)
    | (intro _ i; rfl)
    | (intro _ i _; rfl)
    | (refine ⟨?_, ?_⟩ <;> intro i <;> rfl)
    | (refine ⟨?_, ?_, ?_⟩ <;> intro i <;> rfl)
    | (refine ⟨?_, ?_⟩ <;> intro i _ <;> rfl)
    | (repeat' apply And.intro) <;> first | (intro i; rfl) | (intro i _; rfl) | (intro i h; exact absurd h (Nat.not_lt_zero i)) | (intro i; exact scpL_rowSet (by rfl) (by rfl)) | (intro i; exact scpL_rowEl (by kernel_rfl) _)
    | (intros; (repeat' apply And.intro) <;> intros <;> first | rfl | (exact absurd (by assumption) (Nat.not_lt_zero _)))
    | omega
    | decide
theorem n_f35_3 (v : V35) : f35_3 v := by
  unfold f35_3
  first
    | (intros; rfl)
    | (intro i; rfl)
    | (intro i _; rfl)
    | (intro _ i; rfl)
    | (intro _ i _; rfl)
    | (refine ⟨?_, ?_⟩ <;> intro i <;> rfl)
    | (refine ⟨?_, ?_, ?_⟩ <;> intro i <;> rfl)
    | (refine ⟨?_, ?_⟩ <;> intro i _ <;> rfl)
    | (repeat' apply And.intro) <;> first | (intro i; rfl) | (intro i _; rfl) | (intro i h; exact absurd h (Nat.not_lt_zero i)) | (intro i; exact scpL_rowSet (by rfl) (by rfl)) | (intro i; exact scpL_rowEl (by kernel_rfl) _)
    | (intros; (repeat' apply And.intro) <;> intros <;> first | rfl | (exact absurd (by assumption) (Nat.not_lt_zero _)))
    | omega
    | decide
noncomputable def ff35 (v : V35) : Tr (Fin th.R) := (Tr.need (f35_0 v) (Tr.need (f35_1 v) (Tr.need (f35_2 v) (Tr.need (f35_3 v) (Tr.need (f35_4 v) (Tr.need (f35_5 v) (Tr.need (f35_6 v) (Tr.leaf (SV.bool (true), List.nil, List.nil)))))))))
noncomputable def f35 (v : V35) : Tr (Fin th.R) := (Tr.need (f35_2 v) (Tr.need (f35_4 v) (Tr.need (f35_5 v) (Tr.need (f35_6 v) (Tr.leaf (SV.bool (true), List.nil, []))))))
noncomputable def C35 : CF th.R := fnC d35 ofV35 (f35 )
theorem q35 (v : V35) : (evFn th Try.prog (auto th Try.prog nice40n [] 20) (autoH [] [] [] [] : Hints th) 35) (A35 v) (H35 v) = some (ff35 v) := by kernel_rfl
theorem qg35 (v : V35) : ((ff35 v).map (setD [])).get = (f35 v).get := by kernel_rfl
theorem qd35 (v : V35) : allD 0 [] (ff35 v) = true := by kernel_rfl
theorem s35 : Sound Try.prog th 35 (C35 ) := fnC_sound (evFn_sound' (T := th) (P := Try.prog) (tbl := (auto th Try.prog nice40n [] 20)) (auto_sound (nice := nice40n) (us := []) nok40n 20) (H := (autoH [] [] [] [] : Hints th)) (k := 35) (fnLoops (LoopsOk_mem (fun _ => rfl) _ fun _ _ _ e => by cases e))) d35 A35 H35 toV35 (by kernel_rfl) (fun v => by kernel_rfl)
  (fun l v h => by
    unfold ofV35 at h
    split at h
    · cases h; rfl
    · cases h)
  [] (fun v => ⟨ff35 v, q35 v, fun h => by
    unfold f35 at h; unfold ff35
    simp only [Tr.ok, n_f35_0, n_f35_1, n_f35_3, true_and, and_true, forall_const, implies_true] at h ⊢
    try exact h, qg35 v, qd35 v⟩)
theorem qdd35 (v : V35) : (f35 v).get.2.2 = [] := by
  rw [← qg35, Tr.map_get]; rfl
end Go.Sx.M

namespace Go.Sx.M
open Go Go.Sx Go.Proofs Go.RowKit
set_option maxRecDepth 100000
def pre35 (v : V35) : Prop := True
theorem n35 (v : V35) (h : pre35 v) : (f35 v).ok ∧ (f35 v).get.1 = .bool true ∧ HOws (f35 v).get.2.1 [] := by
  have h0 : ∀ j, j < 1 → U64 352 ∧ SlR (slN (ndf (fun _ => 352) (fun _ => 2) (fun _ => 512) (fun _ => 3) (fun _ => 0) (fun _ => 1) (fun _ => 0) (fun _ => 1) (fun _ => 0) j)) := by
    intro j hj
    obtain rfl : j = 0 := by omega
    (repeat' first | intro _ | apply And.intro | apply SlR.mk) <;> first | trivial | decide
  have g0 := (opS_R (ndf (fun _ => 352) (fun _ => 2) (fun _ => 512) (fun _ => 3) (fun _ => 0) (fun _ => 1) (fun _ => 0) (fun _ => 1) (fun _ => 0)) 1 h0).1
  have c1 : SlR ⟨2, 256, 2, 0, 62, 0, 0, 0, 0, 0⟩ := by (repeat' first | apply SlR.mk | apply And.intro) <;> decide
  have c2 : SlR ⟨2, 256, 2, 0, 0, 0, 0, 0, 0, 0⟩ := by (repeat' first | apply SlR.mk | apply And.intro) <;> decide
  exact ⟨⟨⟨⟨rfl, by decide⟩, h0⟩, fun _ => ⟨c1, g0⟩, fun _ => ⟨c1, g0⟩, fun _ => ⟨c2, g0⟩, trivial⟩, rfl, .refl _⟩
noncomputable def f35n (v : V35) : Tr (Fin th.R) := .need (pre35 v) (.leaf (.bool true, [], []))
theorem s35n : Sound Try.prog th 35 (fnC d35 ofV35 f35n) := fnC_refine s35 fun v h => by
  obtain ⟨hp, _⟩ := h
  obtain ⟨a, b, c⟩ := n35 v hp
  exact ⟨a, b.symm, (qdd35 v).symm, c, by show 0 ≤ 0; decide⟩
noncomputable def nice35n : List (Nat × CF th.R) := (35, lift (fnC d35 ofV35 f35n)) :: nice40n
theorem nok35n : NiceOk Try.prog th nice35n := ⟨lift_sound s35n, nok40n⟩
end Go.Sx.M

namespace Go.Sx.M
open Go Go.Sx Go.Proofs Go.RowKit
set_option maxRecDepth 100000
noncomputable def wkS (M : Mem) (z : Sl) (w l : Int) : Int := cnd (bgE z l != 0) 0 (wkW M z w l).c
abbrev V39 := V39a
abbrev d39 := d39a
abbrev ofV39 := ofV39a
def cp39 (v : V39) : Sl := ⟨v.k, v.a, v.b, v.r, v.g, v.s, v.m, 0, 0, 0⟩
noncomputable def lf39 (v : V39) : Tr (Fin th.R) := .leaf (.int .i64 (wkS v.M (cp39 v) v.w v.l), [.cells 175 [.ptr 1 0, .int .u64 v.f, .int .i64 v.c], .res v.M], [])
def cb39 (v : V39) : V39b := ⟨v.k, v.a, v.b, v.r, v.g, v.s, v.m, v.w, v.l, v.f, v.c, v.M⟩
def co39 (v : V39) : V39o := ⟨v.k, v.a, v.b, v.r, v.g, v.s, v.m, v.w, v.l, v.f, v.c, v.M⟩
theorem hb39 (l : List (Vl th.R)) : ofV39b l = (ofV39 l).map cb39 := by
  unfold ofV39b ofV39 ofV39a
  split
  · rfl
  · rename_i hn
    first
    | rfl
    | (split
       · exact absurd rfl (hn _ _ _ _ _ _ _ _ _ _ _ _)
       · rfl)
theorem ho39 (l : List (Vl th.R)) : ofV39o l = (ofV39 l).map co39 := by
  unfold ofV39o ofV39 ofV39a
  split
  · rfl
  · rename_i hn
    first
    | rfl
    | (split
       · exact absurd rfl (hn _ _ _ _ _ _ _ _ _ _ _ _)
       · rfl)
theorem sb39 : Sound Try.prog th 39 (fnC d39 ofV39 (fun v => f39b (cb39 v))) := by
  have := s39b
  unfold C39b at this
  rw [fnC_conv (d := d39b) (ofV := ofV39) hb39] at this
  exact this
theorem so39 : Sound Try.prog th 39 (fnC d39 ofV39 (fun v => f39o (co39 v))) := by
  have := s39o
  unfold C39o at this
  rw [fnC_conv (d := d39o) (ofV := ofV39) ho39] at this
  exact this
theorem ra39 : Sound Try.prog th 39 (fnC d39 ofV39 (fun v => .need (lbad v.l = true) (lf39 v))) := fnC_refine s39a fun v h => by
  obtain ⟨h, _⟩ := h
  have e : bgE (cp39 v) v.l = 12 := by unfold bgE; rw [h]; rfl
  refine ⟨⟨h, trivial⟩, ?_, rfl, .refl _, by show 2 ≤ 2; decide⟩
  show SV.int .i64 (wkS v.M (cp39 v) v.w v.l) = _
  unfold wkS
  rw [e]
  rfl
theorem rb39 : Sound Try.prog th 39 (fnC d39 ofV39 (fun v => .need (lbad v.l = false ∧ pOk (cp39 v) = false) (lf39 v))) := fnC_refine sb39 fun v h => by
  obtain ⟨⟨h1, h2⟩, _⟩ := h
  have e : bgE (cp39 v) v.l = 20 := by unfold bgE; rw [h1, h2]; rfl
  refine ⟨⟨⟨h1, h2⟩, trivial⟩, ?_, rfl, .refl _, by show 2 ≤ 2; decide⟩
  show SV.int .i64 (wkS v.M (cp39 v) v.w v.l) = _
  unfold wkS
  rw [e]
  rfl
theorem ro39 : Sound Try.prog th 39 (fnC d39 ofV39 (fun v => .need (bgE (cp39 v) v.l = 0 ∧ SlR (cp39 v) ∧ MemR v.M) (lf39 v))) := fnC_refine so39 fun v h => by
  obtain ⟨⟨h1, h2, h3⟩, _⟩ := h
  obtain ⟨k1, k2, k3, k4⟩ := bgE_ok h1
  obtain ⟨_, _, _, e2, e3, _, e5, e6⟩ := pOk_spec h2 k2
  have hp : pnOk v.l (pNb (cp39 v)) (pNg (cp39 v)) := by rw [e2, e3]; exact ⟨⟨by omega, k4⟩, e5, e6⟩
  refine ⟨⟨h1, ⟨hp, h3⟩, trivial⟩, ?_, rfl, .refl _, by show 2 ≤ 2; decide⟩
  show SV.int .i64 (wkS v.M (cp39 v) v.w v.l) = _
  unfold wkS
  rw [h1]
  rfl
def pre39 (v : V39) : Prop := SlR (cp39 v) ∧ MemR v.M
noncomputable def f39n (v : V39) : Tr (Fin th.R) := .need (pre39 v) (lf39 v)
theorem s39n : Sound Try.prog th 39 (fnC d39 ofV39 f39n) := by
  have h1 : Sound Try.prog th 39 (fnC d39 ofV39 (fun v => .need (bgE (cp39 v) v.l ≠ 0) (lf39 v))) := fnC_two ra39 rb39 fun v h => by
    obtain ⟨h, _⟩ := h
    cases hl : lbad v.l with
    | true => exact .inl ⟨⟨rfl, trivial⟩, rfl⟩
    | false =>
      refine .inr ⟨⟨⟨rfl, ?_⟩, trivial⟩, rfl⟩
      cases hp : pOk (cp39 v) with
      | false => rfl
      | true => exact absurd (by unfold bgE; rw [hl, hp]; rfl) h
  exact fnC_two h1 ro39 fun v h => by
    obtain ⟨⟨h2, h3⟩, _⟩ := h
    by_cases h : bgE (cp39 v) v.l = 0
    · exact .inr ⟨⟨⟨h, h2, h3⟩, trivial⟩, rfl⟩
    · exact .inl ⟨⟨h, trivial⟩, rfl⟩
noncomputable def nice39n : List (Nat × CF th.R) := (39, lift (fnC d39 ofV39 f39n)) :: nice35n
theorem nok39n : NiceOk Try.prog th nice39n := ⟨lift_sound s39n, nok35n⟩
end Go.Sx.M

namespace Go.Sx.M
open Go Go.Sx Go.Proofs Go.RowKit
set_option maxRecDepth 100000
def us113 : List Un := []
/-- What a take has behind some rounds. -/
def tk113 (f : Nat → Bool) (l : Int) : Nat → Int
  | 0 => 0
  | n + 1 => cnd (sel54 f (IntKind.i64.wrap (IntKind.i64.wrap (l - 1) - cnt n)).toNat) (IntKind.u64.wrap (IntKind.u64.wrap (2 * tk113 f l n) + 1)) (IntKind.u64.wrap (2 * tk113 f l n))
noncomputable def E113 : St th.R → Out th := evCode th Try.prog (fun _ => none) (noLoops th (fun _ => none) (fun _ => false)) (lpAt Try.prog 113 0)
def i113 (w l n : Int) (f : Nat → Bool) (d ws : List Nat) (i : Nat) : St th.R :=
  ⟨[some (.int .u64 w), some (.int .i64 l), some (.int .i64 n), none, none, none, some (.int .u64 0), some (.ptr 0 0), some (.int .u64 (tk113 f l i)), some (.int .i64 (cnt i)), none, none, none, none, none, none, none, none, none, none, none, none, none, none, none, none, none, none], [.cells 212 (bl 64 f)], d, ws⟩
def o113 (l n : Int) (f : Nat → Bool) (d ws : List Nat) : St th.R :=
  ⟨[none, none, none, none, none, none, none, none, some (.int .u64 (tk113 f l n.toNat)), none, none, none, none, none, none, none, none, none, none, none, none, none, none, none, none, none, none, none], [.cells 212 (bl 64 f)], List.range 1 ++ d, List.range 28 ++ ws⟩
def L113 (st : St th.R) : Out th := match st with
  | ⟨[some (.int .u64 w), some (.int .i64 l), some (.int .i64 n), none, none, none, some (.int .u64 z), some (.ptr 0 0), some (.int .u64 y), some (.int .i64 i), t10, t11, none, none, none, none, none, none, none, none, none, none, none, none, none, none, none, none], [.cells 212 m], d, ws⟩ =>
    some (.need ((z = 0 ∧ y = 0 ∧ i = 0 ∧ m = bl 64 (fOf72 m)) ∧ 0 ≤ n ∧ n ≤ l ∧ l ≤ 64) (.leaf (.exit 0, o113 l n (fOf72 m) d ws)))
  | _ => none
theorem L113_sound : CodeSound th Try.prog (.loop (lpAt Try.prog 113 0)) L113 := by
  intro st t h hok
  unfold L113 at h
  split at h
  · rename_i w l n z y i t10 t11 m d ws
    cases h
    obtain ⟨⟨⟨rfl, rfl, rfl, hl⟩, h0, h1, h2⟩, _⟩ := hok
    refine ⟨grow_mk (Nat.le_of_eq (by kernel_rfl)) (by kernel_rfl) (by kernel_rfl) (by kernel_rfl), fun K w0 ρ a' wd Q hr hQ => ?_⟩
    generalize fOf72 m = f at hl hQ
    subst hl
    obtain ⟨ρ1, hp1, hr1⟩ := Wk.blank (T := th) (s := ⟨[some (.int .u64 w), some (.int .i64 l), some (.int .i64 n), none, none, none, some (.int .u64 0), some (.ptr 0 0), some (.int .u64 0), some (.int .i64 0), t10, t11, none, none, none, none, none, none, none, none, none, none, none, none, none, none, none, none], [.cells 212 (bl 64 f)], d, ws⟩) (s' := i113 w l n f d ws 0) [10, 11] (by kernel_rfl) (by kernel_rfl) K w0 ρ a' wd hr
    refine loop_rule (show CodeSound th Try.prog (lpAt Try.prog 113 0) E113 from plain_body (tbl := fun _ => none) (fun _ _ e => by cases e) _) (N := n.toNat) (I := i113 w l n f d ws) (F := o113 l n f d ws) (ex := .exit 0) (fun e => by cases e) ?_ ?_ hr1 (fun ρ' a w' hp hr' => hQ ρ' a w' (hp1.trans hp) hr')
    · intro i hi
      have hc := cnt_eq (n := i) (by omega)
      have hwr : IntKind.i64.wrap (IntKind.i64.wrap (l - 1) - cnt i) = l - 1 - i := by rw [hc, wrap_i64 (x := l - 1) (by omega) (by omega), wrap_i64 (by omega) (by omega)]
      refine goes_on (c := cnd (decide (cnt i < n)) false true) [12, 13, 14, 15, 16, 17, 18, 19, 20, 21, 22, 23, 24, 25, 26] (by kernel_rfl) ?_ ?_ (by kernel_rfl) (by kernel_rfl) (by kernel_rfl)
      · have h1 : decide (cnt i < n) = true := by rw [hc]; simp; omega
        rw [h1]; rfl
      · have e : (rt (ob (E113 (i113 w l n f d ws i)))).ok = ((0 ≤ IntKind.i64.wrap (IntKind.i64.wrap (l - 1) - cnt i) ∧ IntKind.i64.wrap (IntKind.i64.wrap (l - 1) - cnt i) < 64) ∧ (IntKind.i64.wrap (IntKind.i64.wrap (l - 1) - cnt i)).toNat < (List.drop 0 (bl 64 f)).length ∧ True) := by kernel_rfl
        rw [e, hwr]
        simp [bl]
        omega
    · generalize hN : n.toNat = N
      have hc := cnt_eq (n := N) (by omega)
      refine goes_out (c := cnd (decide (cnt N < n)) false true) [0, 1, 2, 6, 7, 9, 12, 13, 14] (by kernel_rfl) ?_ ?_ (by kernel_rfl) ?_ ?_
      · have : decide (cnt N < n) = false := by rw [hc]; simp; omega
        rw [this]; rfl
      · have e : (lf (ob (E113 (i113 w l n f d ws N)))).ok = True := by kernel_rfl
        rw [e]; trivial
      · subst hN
        kernel_rfl
      · kernel_rfl
  · cases h
/-- The number of some bits. -/
def takeI (w l n : Int) : Int := tk113 (bitI w) l n.toNat
def f113 : List SV → Option (Tr SV)
  | [.int .u64 w, .int .i64 l, .int .i64 n] => some (.need (0 ≤ n ∧ n ≤ l ∧ l ≤ 64) (.leaf (.int .u64 (takeI w l n))))
  | _ => none
theorem tk_congr {f g : Nat → Bool} {l : Int} (h : ∀ j, j < 64 → f j = g j) : ∀ n, tk113 f l n = tk113 g l n
  | 0 => rfl
  | n + 1 => by
    have e : ∀ k, sel54 f k = sel54 g k := fun k => by
      unfold sel54
      by_cases hk : k < 64
      · simp [List.getD_eq_getElem?_getD, hk, h k hk]
      · simp [List.getD_eq_getElem?_getD, hk]
    show cnd _ _ _ = cnd _ _ _
    rw [tk_congr h n, e]
theorem s113 : Sound Try.prog th 113 (pureC f113) := pure_fn (tbl := auto th Try.prog nice39n us113 20) (H := oneLoop 4 L113) (auto_sound nok39n 20)
  (oneLoop_ok (by kernel_rfl) (by kernel_rfl) L113_sound) fun args t h hok => by
  unfold f113 at h
  split at h
  · rename_i w l n
    cases h
    obtain ⟨⟨h1, h2, h3⟩, _⟩ := hok
    refine ⟨.need (((0 : Int) = 0 ∧ (0 : Int) = 0 ∧ (0 : Int) = 0 ∧ bl 64 (bitI w) = bl 64 (fOf72 (bl 64 (bitI w)))) ∧ 0 ≤ n ∧ n ≤ l ∧ l ≤ 64) (.leaf (.int .u64 (tk113 (fOf72 (bl 64 (bitI w))) l n.toNat), [], [])), by kernel_rfl, ⟨⟨⟨rfl, rfl, rfl, ?_⟩, h1, h2, h3⟩, trivial⟩, ?_⟩
    · exact bl_congr fun j hj => (fOf72_bl hj).symm
    · have : tk113 (fOf72 (bl 64 (bitI w))) l n.toNat = takeI w l n := tk_congr (fun j hj => fOf72_bl hj) _
      exact congrArg (fun x => (SV.int .u64 x, ([] : List (HO th.R)), ([] : List Nat))) this
  · cases h
noncomputable def nice113 : List (Nat × CF th.R) := (113, pureC f113) :: nice39n
theorem nok113 : NiceOk Try.prog th nice113 := ⟨s113, nok39n⟩
end Go.Sx.M

namespace Go.Sx.M
open Go Go.Sx Go.Proofs Go.RowKit
set_option maxRecDepth 100000
structure V68 where
  z : Int
  L : Nat
  at_ : Int
  Q : Nat
  t : Nat → Int
  k : Nat → Int
  a : Nat → Int
  b : Nat → Int
  r : Nat → Int
  g : Nat → Int
  s : Nat → Int
  m : Nat → Int
  d : Nat → Int
def A68 (v : V68) : List SV := [.agg [.int .u64 v.z, .slc 0 9 0 v.L], .int .u64 v.at_]
def H68 (v : V68) : List (HO th.R) := [.row 100 9 v.Q (fun j => [.int .u64 (v.t j), .int .i64 (v.k j), .int .u64 (v.a j), .int .i64 (v.b j), .int .i64 (v.r j), .int .i64 (v.g j), .int .i64 (v.s j), .int .u64 (v.m j), .int .i64 (v.d j)])]
def toV68 (v : V68) : List (Vl th.R) := [.i v.z, .n v.L, .i v.at_, .n v.Q, .c v.t, .c v.k, .c v.a, .c v.b, .c v.r, .c v.g, .c v.s, .c v.m, .c v.d]
def ofV68 : List (Vl th.R) → Option V68
  | [.i z, .n L, .i at_, .n Q, .c t, .c k, .c a, .c b, .c r, .c g, .c s, .c m, .c d] => some ⟨z, L, at_, Q, t, k, a, b, r, g, s, m, d⟩
  | _ => none
def d68 : Ft := ⟨[.agg [.int .u64, .slc0 0 9], .int .u64], [.rowc 100 [.int .u64, .int .i64, .int .u64, .int .i64, .int .i64, .int .i64, .int .i64, .int .u64, .int .i64]]⟩
noncomputable def f68_14 (v : V68) : (Int) := cnd (v.at_.tmod (32 : Int) != (0 : Int)) (13 : Int) (cnd (decide (v.at_ ≥ v.z)) (12 : Int) (0 : Int))
noncomputable def f68_15 (v : V68) : (Int) := fnd (nds (ndf v.t v.k v.a v.b v.r v.g v.s v.m v.d) v.L) v.at_
noncomputable def f68_16 (v : V68) : (Bool) := cnd (f68_14 v != (0 : Int)) true (decide (f68_15 v < (0 : Int)))
noncomputable def f68_17 (v : V68) : (Nat) := (0:Nat) + (f68_15 v).toNat
noncomputable def f68_0 (v : V68) : (Prop) := ∀ (i : Nat), scpL (0:Nat) ((fun (j : Nat) => [SV.int IntKind.u64 (v.t j), SV.int IntKind.i64 (v.k j), SV.int IntKind.u64 (v.a j), SV.int IntKind.i64 (v.b j), SV.int IntKind.i64 (v.r j), SV.int IntKind.i64 (v.g j), SV.int IntKind.i64 (v.s j), SV.int IntKind.u64 (v.m j), SV.int IntKind.i64 (v.d j)]) i) = true
noncomputable def f68_1 (v : V68) : (Prop) := (32 : Int) ≠ (0 : Int)
noncomputable def f68_2 (v : V68) : (Prop) := ∀ (i : Nat), i < v.Q → (fun (j : Nat) => [SV.int IntKind.u64 (v.t j), SV.int IntKind.i64 (v.k j), SV.int IntKind.u64 (v.a j), SV.int IntKind.i64 (v.b j), SV.int IntKind.i64 (v.r j), SV.int IntKind.i64 (v.g j), SV.int IntKind.i64 (v.s j), SV.int IntKind.u64 (v.m j), SV.int IntKind.i64 (v.d j)]) i = elC (fun (j : Nat) => [SV.int IntKind.u64 (v.t j), SV.int IntKind.i64 (v.k j), SV.int IntKind.u64 (v.a j), SV.int IntKind.i64 (v.b j), SV.int IntKind.i64 (v.r j), SV.int IntKind.i64 (v.g j), SV.int IntKind.i64 (v.s j), SV.int IntKind.u64 (v.m j), SV.int IntKind.i64 (v.d j)]) (0:Nat) [Ck.int IntKind.u64, Ck.int IntKind.i64, Ck.int IntKind.u64, Ck.int IntKind.i64, Ck.int IntKind.i64, Ck.int IntKind.i64, Ck.int IntKind.i64, Ck.int IntKind.u64, Ck.int IntKind.i64] i
noncomputable def f68_3 (v : V68) : (Prop) := pre69 (V69.mk v.z v.L v.at_ v.Q v.t v.k v.a v.b v.r v.g v.s v.m v.d)
noncomputable def f68_4 (v : V68) : (Prop) := f68_16 v = false → (0 : Int) ≤ f68_15 v ∧ f68_15 v < (↑v.L : Int)
noncomputable def f68_5 (v : V68) : (Prop) := f68_16 v = false → f68_17 v < v.Q
noncomputable def f68_6 (v : V68) : (Int) := cnd (f68_16 v) (0 : Int) (v.k (f68_17 v))
noncomputable def f68_7 (v : V68) : (Int) := cnd (f68_16 v) (0 : Int) (v.a (f68_17 v))
noncomputable def f68_8 (v : V68) : (Int) := cnd (f68_16 v) (0 : Int) (v.b (f68_17 v))
noncomputable def f68_9 (v : V68) : (Int) := cnd (f68_16 v) (0 : Int) (v.r (f68_17 v))
noncomputable def f68_10 (v : V68) : (Int) := cnd (f68_16 v) (0 : Int) (v.g (f68_17 v))
noncomputable def f68_11 (v : V68) : (Int) := cnd (f68_16 v) (0 : Int) (v.s (f68_17 v))
noncomputable def f68_12 (v : V68) : (Int) := cnd (f68_16 v) (0 : Int) (v.m (f68_17 v))
noncomputable def f68_13 (v : V68) : (Int) := cnd (f68_16 v) (f68_14 v) (0 : Int)
theorem n_f68_0 (v : V68) : f68_0 v := by
  unfold f68_0
  first
    | (intros; rfl)
    | (intro i; rfl)
    | (intro i _; rfl)
    | (intro _ i; rfl)
    | (intro _ i _; rfl)
    | (refine ⟨?_, ?_⟩ <;> intro i <;> rfl)
    | (refine ⟨?_, ?_, ?_⟩ <;> intro i <;> rfl)
    | (refine ⟨?_, ?_⟩ <;> intro i _ <;> rfl)
    | (repeat' apply And.intro) <;> first | (intro i; rfl) | (intro i _; rfl) | (intro i h; exact absurd h (Nat.not_lt_zero i)) | (intro i; exact scpL_rowSet (by rfl) (by rfl)) | (intro i; exact scpL_rowEl (by kernel_rfl) _)
    | (intros; (repeat' apply And.intro) <;> intros <;> first | rfl | (exact absurd (by assumption) (Nat.not_lt_zero _)))
    | omega
    | decide
theorem n_f68_1 (v : V68) : f68_1 v := by
  unfold f68_1
  first
    | (intros; rfl)
    | (intro i; rfl)
    | (intro i _; rfl)
    | (intro _ i; rfl)
    | (intro _ i _; rfl)
    | (refine ⟨?_, ?_⟩ <;> intro i <;> rfl)
    | (refine ⟨?_, ?_, ?_⟩ <;> intro i <;> rfl)
    | (refine ⟨?_, ?_⟩ <;> intro i _ <;> rfl)
    | (repeat' apply And.intro) <;> first | (intro i; rfl) | (intro i _; rfl) | (intro i h; exact absurd h (Nat.not_lt_zero i)) | (intro i; exact scpL_rowSet (by rfl) (by rfl)) | (intro i; exact scpL_rowEl (by kernel_rfl) _)
    | (intros; (repeat' apply And.intro) <;> intros <;> first | rfl | (exact absurd (by assumption) (Nat.not_lt_zero _)))
    | omega
    | decide
theorem n_f68_2 (v : V68) : f68_2 v := by
  unfold f68_2
  first
    | (intros; rfl)
    | (intro i; rfl)
    | (intro i _; rfl)
    | (intro _ i; rfl)
    | (intro _ i _; rfl)
    | (refine ⟨?_, ?_⟩ <;> intro i <;> rfl)
    | (refine ⟨?_, ?_, ?_⟩ <;> intro i <;> rfl)
    | (refine ⟨?_, ?_⟩ <;> intro i _ <;> rfl)
    | (repeat' apply And.intro) <;> first | (intro i; rfl) | (intro i _; rfl) | (intro i h; exact absurd h (Nat.not_lt_zero i)) | (intro i; exact scpL_rowSet (by rfl) (by rfl)) | (intro i; exact scpL_rowEl (by kernel_rfl) _)
    | (intros; (repeat' apply And.intro) <;> intros <;> first | rfl | (exact absurd (by assumption) (Nat.not_lt_zero _)))
    | omega
    | decide
noncomputable def ff68 (v : V68) : Tr (Fin th.R) := (Tr.need (f68_0 v) (Tr.need (f68_1 v) (Tr.need (f68_0 v) (Tr.need (f68_0 v) (Tr.need (f68_2 v) (Tr.need (f68_3 v) (Tr.need (f68_0 v) (Tr.need (f68_4 v) (Tr.need (f68_5 v) (Tr.leaf (SV.tup [SV.agg [SV.int .i64 (f68_6 v), SV.int .u64 (f68_7 v), SV.int .i64 (f68_8 v), SV.int .i64 (f68_9 v), SV.int .i64 (f68_10 v), SV.int .i64 (f68_11 v), SV.int .u64 (f68_12 v)], SV.int .i64 (f68_13 v)], [(HO.row (100 : Nat) (9 : Nat) (v.Q) (fun j => [SV.int .u64 (v.t j), SV.int .i64 (v.k j), SV.int .u64 (v.a j), SV.int .i64 (v.b j), SV.int .i64 (v.r j), SV.int .i64 (v.g j), SV.int .i64 (v.s j), SV.int .u64 (v.m j), SV.int .i64 (v.d j)]))], List.nil)))))))))))
noncomputable def f68 (v : V68) : Tr (Fin th.R) := (Tr.need (f68_3 v) (Tr.need (f68_4 v) (Tr.need (f68_5 v) (Tr.leaf (SV.tup [SV.agg [SV.int .i64 (f68_6 v), SV.int .u64 (f68_7 v), SV.int .i64 (f68_8 v), SV.int .i64 (f68_9 v), SV.int .i64 (f68_10 v), SV.int .i64 (f68_11 v), SV.int .u64 (f68_12 v)], SV.int .i64 (f68_13 v)], [(HO.row (100 : Nat) (9 : Nat) (v.Q) (fun j => [SV.int .u64 (v.t j), SV.int .i64 (v.k j), SV.int .u64 (v.a j), SV.int .i64 (v.b j), SV.int .i64 (v.r j), SV.int .i64 (v.g j), SV.int .i64 (v.s j), SV.int .u64 (v.m j), SV.int .i64 (v.d j)]))], [])))))
noncomputable def C68 : CF th.R := fnC d68 ofV68 (f68 )
theorem q68 (v : V68) : (evFn th Try.prog (auto th Try.prog nice113 [] 20) (autoH [] [] [] [] : Hints th) 68) (A68 v) (H68 v) = some (ff68 v) := by kernel_rfl
theorem qg68 (v : V68) : ((ff68 v).map (setD [])).get = (f68 v).get := by kernel_rfl
theorem qd68 (v : V68) : allD 1 [] (ff68 v) = true := by kernel_rfl
theorem s68 : Sound Try.prog th 68 (C68 ) := fnC_sound (evFn_sound' (T := th) (P := Try.prog) (tbl := (auto th Try.prog nice113 [] 20)) (auto_sound (nice := nice113) (us := []) nok113 20) (H := (autoH [] [] [] [] : Hints th)) (k := 68) (fnLoops (LoopsOk_mem (fun _ => rfl) _ fun _ _ _ e => by cases e))) d68 A68 H68 toV68 (by kernel_rfl) (fun v => by kernel_rfl)
  (fun l v h => by
    unfold ofV68 at h
    split at h
    · cases h; rfl
    · cases h)
  [] (fun v => ⟨ff68 v, q68 v, fun h => by
    unfold f68 at h; unfold ff68
    simp only [Tr.ok, n_f68_0, n_f68_1, n_f68_2, true_and, and_true, forall_const, implies_true] at h ⊢
    try exact h, qg68 v, qd68 v⟩)
theorem qdd68 (v : V68) : (f68 v).get.2.2 = [] := by
  rw [← qg68, Tr.map_get]; rfl
end Go.Sx.M

namespace Go.Sx.M
open Go Go.Sx
/-- What four words say, unasked. -/
def rawS (w0 w1 w2 w3 : Int) : Sl := ⟨IntKind.i64.wrap (f102_1 0 4 w0), IntKind.u64.wrap (f102_1 35 27 w0 * 32), IntKind.i64.wrap (f102_1 4 6 w0), IntKind.i64.wrap (f102_1 10 3 w0), IntKind.i64.wrap (f102_1 13 6 w0), IntKind.i64.wrap (f102_1 19 16 w0), w1,
  IntKind.u64.wrap (f102_1 0 27 w2 * 32), IntKind.u64.wrap (f102_1 32 27 w2 * 32), cnd (decide (w3 ≤ 4096)) (IntKind.i64.wrap w3) 0⟩
/-- They are a slot's. -/
def okW (w0 w1 w2 w3 : Int) : Prop := rightS (rawS w0 w1 w2 w3) = true ∧ wd0 (rawS w0 w1 w2 w3) = w0 ∧ wd1 (rawS w0 w1 w2 w3) = w1 ∧ wd2 (rawS w0 w1 w2 w3) = w2 ∧ wd3 (rawS w0 w1 w2 w3) = w3
theorem rightS_rgt {z : Sl} (h : rightS z = true) : rgt z = true := by
  unfold rightS f34_0 at h
  unfold rgt
  cases hh : f45_1 z.k z.a z.b z.r z.g z.s z.m with
  | true => rfl
  | false => rw [hh] at h; simp [cnd] at h
theorem read_ok {w0 w1 w2 w3 : Int} (hr : rgt (rawS w0 w1 w2 w3) = true) (h0 : wd0 (rawS w0 w1 w2 w3) = w0) : f100_10 w0 w1 = 0 ∧ f100_3 w0 w1 = (rawS w0 w1 w2 w3).k ∧ f100_4 w0 w1 = (rawS w0 w1 w2 w3).a ∧ f100_5 w0 w1 = (rawS w0 w1 w2 w3).b ∧
    f100_6 w0 w1 = (rawS w0 w1 w2 w3).r ∧ f100_7 w0 w1 = (rawS w0 w1 w2 w3).g ∧ f100_8 w0 w1 = (rawS w0 w1 w2 w3).s ∧ f100_9 w0 w1 = (rawS w0 w1 w2 w3).m := by
  have hr : f45_1 (IntKind.i64.wrap (f102_1 0 4 w0)) (IntKind.u64.wrap (f102_1 35 27 w0 * 32)) (IntKind.i64.wrap (f102_1 4 6 w0)) (IntKind.i64.wrap (f102_1 10 3 w0)) (IntKind.i64.wrap (f102_1 13 6 w0)) (IntKind.i64.wrap (f102_1 19 16 w0)) w1 = true := hr
  have h0 : f164_14 (IntKind.i64.wrap (f102_1 0 4 w0)) (IntKind.u64.wrap (f102_1 35 27 w0 * 32)) (IntKind.i64.wrap (f102_1 4 6 w0)) (IntKind.i64.wrap (f102_1 10 3 w0)) (IntKind.i64.wrap (f102_1 13 6 w0)) (IntKind.i64.wrap (f102_1 19 16 w0)) w1 = w0 := h0
  have h2 := (words_at hr).2
  simp only [f100_3, f100_4, f100_5, f100_6, f100_7, f100_8, f100_9, f100_10, h2, h0]
  simp [cnd, rawS]
theorem read_bad {w0 w1 w2 w3 : Int} (h : ¬ (rgt (rawS w0 w1 w2 w3) = true ∧ wd0 (rawS w0 w1 w2 w3) = w0)) : f100_10 w0 w1 = 10 := by
  simp only [f100_10]
  cases hr : f45_1 (IntKind.i64.wrap (f102_1 0 4 w0)) (IntKind.u64.wrap (f102_1 35 27 w0 * 32)) (IntKind.i64.wrap (f102_1 4 6 w0)) (IntKind.i64.wrap (f102_1 10 3 w0)) (IntKind.i64.wrap (f102_1 13 6 w0)) (IntKind.i64.wrap (f102_1 19 16 w0)) w1 with
  | false => rw [(words_no hr).2.2]; rfl
  | true =>
    rw [(words_at hr).2]
    have : f164_14 (IntKind.i64.wrap (f102_1 0 4 w0)) (IntKind.u64.wrap (f102_1 35 27 w0 * 32)) (IntKind.i64.wrap (f102_1 4 6 w0)) (IntKind.i64.wrap (f102_1 10 3 w0)) (IntKind.i64.wrap (f102_1 13 6 w0)) (IntKind.i64.wrap (f102_1 19 16 w0)) w1 ≠ w0 := fun e => h ⟨hr, e⟩
    rw [bne_iff_ne.2 this]
    rfl
/-- What is loaded from where a slot may lie. -/
theorem ld_raw {M : Mem} {a : Int} (he : f99_0 ⟨a, M⟩ = 0) {w0 w1 w2 w3 : Int} (e0 : M.W (IntKind.u64.wrap (a + 0)) = w0) (e1 : M.W (IntKind.u64.wrap (a + 8)) = w1) (e2 : M.W (IntKind.u64.wrap (a + 16)) = w2) (e3 : M.W (IntKind.u64.wrap (a + 24)) = w3) :
    (okW w0 w1 w2 w3 → ld M a = rawS w0 w1 w2 w3 ∧ ldE M a = 0) ∧ (¬ okW w0 w1 w2 w3 → ld M a = sl0 ∧ ldE M a = 10) := by
  have q0 : f29_30 ⟨a, M⟩ = w0 := e0
  have q1 : f29_31 ⟨a, M⟩ = w1 := e1
  have q2 : f29_32 ⟨a, M⟩ = w2 := e2
  have q3 : f29_33 ⟨a, M⟩ = w3 := e3
  have r0 : f29_36 ⟨a, M⟩ = w0 := e0
  have r1 : f29_37 ⟨a, M⟩ = w1 := e1
  have r2 : f29_52 ⟨a, M⟩ = w2 := e2
  have r3 : f29_34 ⟨a, M⟩ = w3 := e3
  have hd : f29_25 ⟨a, M⟩ = false := by simp [f29_25, he]
  have c35 : f29_35 ⟨a, M⟩ = decide (w3 ≤ 4096) := by simp only [f29_35, r3]
  have d0 : f29_57 ⟨a, M⟩ = (rawS w0 w1 w2 w3).d := by simp only [f29_57, c35, r3, rawS]
  have d1 : f29_54 ⟨a, M⟩ = (rawS w0 w1 w2 w3).x := by simp only [f29_54, cnd_same, f29_53, r2, rawS]
  have d2 : f29_56 ⟨a, M⟩ = (rawS w0 w1 w2 w3).p := by simp only [f29_56, cnd_same, f29_55, r2, rawS]
  simp only [ld, ldE, f29_14, f29_15, f29_16, f29_17, f29_18, f29_19, f29_20, f29_21, f29_22, f29_23, f29_24, hd, d0, d1, d2, f29_39, f29_41, f29_43, f29_45, f29_47, f29_49, f29_51, cnd_same, f29_38, f29_40, f29_42, f29_44, f29_46, f29_48, f29_50, r0, r1, q0, q1, q2, q3]
  by_cases hg : rgt (rawS w0 w1 w2 w3) = true ∧ wd0 (rawS w0 w1 w2 w3) = w0
  · obtain ⟨g1, g2, g3, g4, g5, g6, g7, g8⟩ := read_ok hg.1 hg.2
    rw [g1, g2, g3, g4, g5, g6, g7, g8]
    unfold okW rightS wd0 wd1 wd2 wd3
    generalize rawS w0 w1 w2 w3 = z
    constructor
    · rintro ⟨k1, k2, k3, k4, k5⟩
      rw [k1, k2, k3, k4, k5]
      simp [cnd]
    · intro hn
      have hbad : cnd (cnd ((0 : Int) != 0) true (!f34_0 z.k z.a z.b z.r z.g z.s z.m z.x z.p z.d)) true (!(f104_2 z.k z.a z.b z.r z.g z.s z.m z.x z.p z.d == w0 && (f104_3 z.k z.a z.b z.r z.g z.s z.m z.x z.p z.d == w1 &&
            (f104_4 z.k z.a z.b z.r z.g z.s z.m z.x z.p z.d == w2 && (f104_5 z.k z.a z.b z.r z.g z.s z.m z.x z.p z.d == w3 && true))))) = true := by
        cases hc : cnd _ true _ with
        | true => rfl
        | false =>
          refine absurd ?_ hn
          revert hc
          cases f34_0 z.k z.a z.b z.r z.g z.s z.m z.x z.p z.d <;> simp [cnd]
      rw [hbad]
      exact ⟨rfl, rfl⟩
  · have hb := read_bad hg
    rw [hb]
    constructor
    · intro hk
      exact absurd ⟨rightS_rgt hk.1, hk.2.1⟩ hg
    · intro _
      exact ⟨rfl, rfl⟩
end Go.Sx.M

namespace Go.Sx.M
open Go Go.Sx
theorem ld_bad {M : Mem} {a : Int} (he : f99_0 ⟨a, M⟩ ≠ 0) : ld M a = sl0 ∧ ldE M a = f99_0 ⟨a, M⟩ := by
  have hd : f29_25 ⟨a, M⟩ = true := by simp [f29_25, he]
  simp only [ld, ldE, f29_14, f29_15, f29_16, f29_17, f29_18, f29_19, f29_20, f29_21, f29_22, f29_23, f29_24, hd]
  exact ⟨rfl, rfl⟩
/-- Why a slot may not lie there. -/
def errS (n a : Int) : Int := if a % 32 = 0 then if n ≤ a then 12 else 0 else 13
theorem errS_eq {M : Mem} {a : Int} (h : U64 a) : f99_0 ⟨a, M⟩ = errS M.size a := by
  have e : f125_0 a 5 = decide (a % 32 = 0) := by
    have := aligned_eq (a := a) (n := 5) h.1 h.2 (by omega) (by omega)
    rw [this]
    have : p26 (Int.toNat 5) = 32 := by decide +kernel
    rw [this]
    by_cases hh : a % 32 = 0 <;> simp [hh]
  have e2 : szM M = M.size := rfl
  simp only [f99_0, e, e2, errS]
  by_cases h1 : a % 32 = 0
  · by_cases h2 : M.size ≤ a <;> simp [cnd, h1, h2]
  · simp [cnd, h1]
theorem errS_ok {n a : Int} (h : errS n a = 0) : a % 32 = 0 ∧ a < n := by
  unfold errS at h
  split at h
  · split at h
    · omega
    · omega
  · omega
theorem errS_mk {n a : Int} (h1 : a % 32 = 0) (h2 : a < n) : errS n a = 0 := by
  unfold errS; rw [if_pos h1, if_neg (by omega)]
theorem wr_same {M : Mem} {a x : Int} (h : errI M.size a = 0) : (wrM M a x).W a = x := by
  show cnd (decide (errI M.size a = 0)) (upd M.W a x) M.W a = x
  rw [decide_eq_true h]; exact upd_same ..
theorem wr_other {M : Mem} {a x i : Int} (h : i ≠ a) : (wrM M a x).W i = M.W i := by
  show cnd (decide (errI M.size a = 0)) (upd M.W a x) M.W i = M.W i
  cases decide (errI M.size a = 0)
  · rfl
  · exact upd_other h
/-- Four words, one behind the other. -/
theorem four {M : Mem} {a w0 w1 w2 w3 : Int} (h0 : 0 ≤ a) (h1 : a % 32 = 0) (h2 : a < M.size) (h3 : M.size % 32 = 0) (h4 : M.size ≤ 4294967296) :
    let N := wrM (wrM (wrM (wrM M (IntKind.u64.wrap (a + 0)) w0) (IntKind.u64.wrap (a + 8)) w1) (IntKind.u64.wrap (a + 16)) w2) (IntKind.u64.wrap (a + 24)) w3
    N.W a = w0 ∧ N.W (a + 8) = w1 ∧ N.W (a + 16) = w2 ∧ N.W (a + 24) = w3 ∧ ∀ i, i ≠ a → i ≠ a + 8 → i ≠ a + 16 → i ≠ a + 24 → N.W i = M.W i := by
  intro N
  have e0 : IntKind.u64.wrap (a + 0) = a := by rw [wrap_u64_id (by omega) (by omega)]; omega
  have e8 : IntKind.u64.wrap (a + 8) = a + 8 := wrap_u64_id (by omega) (by omega)
  have e16 : IntKind.u64.wrap (a + 16) = a + 16 := wrap_u64_id (by omega) (by omega)
  have e24 : IntKind.u64.wrap (a + 24) = a + 24 := wrap_u64_id (by omega) (by omega)
  have k0 : errI M.size a = 0 := errI_ok (by omega) (by omega)
  have k8 : errI M.size (a + 8) = 0 := errI_ok (by omega) (by omega)
  have k16 : errI M.size (a + 16) = 0 := errI_ok (by omega) (by omega)
  have k24 : errI M.size (a + 24) = 0 := errI_ok (by omega) (by omega)
  have hN : N = wrM (wrM (wrM (wrM M a w0) (a + 8) w1) (a + 16) w2) (a + 24) w3 := by show wrM _ _ _ = _; rw [e0, e8, e16, e24]
  rw [hN]
  refine ⟨?_, ?_, ?_, ?_, fun i i0 i1 i2 i3 => ?_⟩
  · rw [wr_other (by omega), wr_other (by omega), wr_other (by omega)]; exact wr_same k0
  · rw [wr_other (by omega), wr_other (by omega)]; exact wr_same k8
  · rw [wr_other (by omega)]; exact wr_same k16
  · exact wr_same k24
  · rw [wr_other i3, wr_other i2, wr_other i1, wr_other i0]
end Go.Sx.M

namespace Go.Sx.M
open Go Go.Sx
/-- The words of a slot are read as it was. -/
theorem raw_wd {z : Sl} (h : SlR z) (hs : rightS z = true) : rawS (wd0 z) (wd1 z) (wd2 z) (wd3 z) = z := by
  obtain ⟨hr, ⟨x1, x2⟩, ⟨p1, p2⟩, d1, d2⟩ := (rightS_iff h).1 hs
  have hr2 := rgt2 h hr
  have e3 : wd3 z = z.d := by
    have : wd3 z = IntKind.u64.wrap z.d := rfl
    rw [this, wrap_u64_id (by omega) (by omega)]
  have x0 := h.x.1
  have p0 := h.p.1
  obtain ⟨x, hx⟩ : ∃ n : Nat, z.x / 32 = n := ⟨(z.x / 32).toNat, by omega⟩
  obtain ⟨q, hq⟩ : ∃ n : Nat, z.p / 32 = n := ⟨(z.p / 32).toNat, by omega⟩
  have e2 : wd2 z = ((x + q * 4294967296 : Nat) : Int) := by rw [wd2_eq h x1 p1, hx, hq]; simp
  obtain ⟨l1, l2⟩ := links_back (x := x) (q := q) (by omega) (by omega)
  have hr' : f45_1 z.k z.a z.b z.r z.g z.s z.m = true := hr
  obtain ⟨w1, w2⟩ := word_right h.a.1 h.a.2 hr2 hr'
  obtain ⟨hk, hb, hrr, hg, hss, hal, hmod⟩ := right_ranges h.a.1 h.a.2 hr2 hr'
  obtain ⟨m1, m2⟩ := words_at hr'
  have ha := h.a.1
  obtain ⟨g1, g2, g3, g4, g5, g6⟩ := word_get (k := z.k.toNat) (b := z.b.toNat) (r := z.r.toNat) (g := z.g.toNat) (s := z.s.toNat) (q := (z.a / 32).toNat) (by omega) (by omega) (by omega) (by omega) (by omega) (by omega)
  have c1 : IntKind.i64.wrap ((z.k.toNat : Nat) : Int) = z.k := by rw [wrap_i64 (by omega) (by omega)]; omega
  have c2 : IntKind.i64.wrap ((z.b.toNat : Nat) : Int) = z.b := by rw [wrap_i64 (by omega) (by omega)]; omega
  have c3 : IntKind.i64.wrap ((z.r.toNat : Nat) : Int) = z.r := by rw [wrap_i64 (by omega) (by omega)]; omega
  have c4 : IntKind.i64.wrap ((z.g.toNat : Nat) : Int) = z.g := by rw [wrap_i64 (by omega) (by omega)]; omega
  have c5 : IntKind.i64.wrap ((z.s.toNat : Nat) : Int) = z.s := by rw [wrap_i64 (by omega) (by omega)]; omega
  have c6 : IntKind.u64.wrap ((((z.a / 32).toNat : Nat) : Int) * 32) = z.a := by rw [wrap_u64_id (by omega) (by omega)]; omega
  have c7 : IntKind.u64.wrap (((x : Nat) : Int) * 32) = z.x := by rw [wrap_u64_id (by omega) (by omega)]; omega
  have c8 : IntKind.u64.wrap (((q : Nat) : Int) * 32) = z.p := by rw [wrap_u64_id (by omega) (by omega)]; omega
  have e0 : wd0 z = wordN z.k.toNat z.b.toNat z.r.toNat z.g.toNat z.s.toNat (z.a / 32).toNat := w1
  have e1 := wd1_eq hr
  have d3 : IntKind.i64.wrap z.d = z.d := wrap_i64 (by omega) (by omega)
  rw [e0, e1, e2, e3]
  simp only [rawS, g1, g2, g3, g4, g5, g6, l1, l2, c1, c2, c3, c4, c5, c6, c7, c8, d3, decide_eq_true d2, cnd]
theorem okW_wd {z : Sl} (h : SlR z) (hs : rightS z = true) : okW (wd0 z) (wd1 z) (wd2 z) (wd3 z) := by
  unfold okW
  rw [raw_wd h hs]
  exact ⟨hs, rfl, rfl, rfl, rfl⟩
/-- Where a slot may lie. -/
def slOK (n a : Int) : Prop := 0 ≤ a ∧ a % 32 = 0 ∧ a < n
/-- A memory that is one slot behind the other. -/
structure Enc (M : Mem) (σ : Int → Sl) : Prop where
  s0 : M.size % 32 = 0
  s1 : 0 < M.size
  s2 : M.size ≤ 4294967296
  ok : ∀ a, slOK M.size a → SlR (σ a) ∧ rightS (σ a) = true
  w : ∀ a, slOK M.size a → M.W a = wd0 (σ a) ∧ M.W (a + 8) = wd1 (σ a) ∧ M.W (a + 16) = wd2 (σ a) ∧ M.W (a + 24) = wd3 (σ a)
def setA (σ : Int → Sl) (a : Int) (z : Sl) : Int → Sl := fun i => if i = a then z else σ i
theorem setA_same {σ : Int → Sl} {a : Int} {z : Sl} : setA σ a z a = z := if_pos rfl
theorem setA_other {σ : Int → Sl} {a i : Int} {z : Sl} (h : i ≠ a) : setA σ a z i = σ i := if_neg h
theorem Enc.ld {M : Mem} {σ : Int → Sl} (E : Enc M σ) {a : Int} (h : slOK M.size a) : ld M a = σ a ∧ ldE M a = 0 := by
  obtain ⟨h0, h1, h2⟩ := h
  have hn := E.s2
  have e0 : IntKind.u64.wrap (a + 0) = a := by rw [wrap_u64_id (by omega) (by omega)]; omega
  have e8 : IntKind.u64.wrap (a + 8) = a + 8 := wrap_u64_id (by omega) (by omega)
  have e16 : IntKind.u64.wrap (a + 16) = a + 16 := wrap_u64_id (by omega) (by omega)
  have e24 : IntKind.u64.wrap (a + 24) = a + 24 := wrap_u64_id (by omega) (by omega)
  obtain ⟨k1, k2⟩ := E.ok a ⟨h0, h1, h2⟩
  obtain ⟨w0, w1, w2, w3⟩ := E.w a ⟨h0, h1, h2⟩
  have he : f99_0 ⟨a, M⟩ = 0 := by rw [errS_eq ⟨h0, by omega⟩]; exact errS_mk h1 h2
  obtain ⟨g1, g2⟩ := (ld_raw he (by rw [e0]; exact w0) (by rw [e8]; exact w1) (by rw [e16]; exact w2) (by rw [e24]; exact w3)).1 (okW_wd k1 k2)
  rw [raw_wd k1 k2] at g1
  exact ⟨g1, g2⟩
theorem ld_not {M : Mem} {a : Int} (hu : U64 a) (h : ¬ slOK M.size a) : ld M a = sl0 ∧ ldE M a = errS M.size a ∧ errS M.size a ≠ 0 := by
  have he : f99_0 ⟨a, M⟩ = errS M.size a := errS_eq hu
  have hne : errS M.size a ≠ 0 := by
    intro e
    obtain ⟨a1, a2⟩ := errS_ok e
    exact h ⟨hu.1, a1, a2⟩
  obtain ⟨b1, b2⟩ := ld_bad (M := M) (a := a) (by rw [he]; exact hne)
  exact ⟨b1, by rw [b2, he], hne⟩
theorem stE_any {M : Mem} {a : Int} {z : Sl} : stE M a z = cnd (f99_0 ⟨a, M⟩ != 0) (f99_0 ⟨a, M⟩) (cnd (!rightS z) 10 0) := rfl
theorem Enc.st {M : Mem} {σ : Int → Sl} (E : Enc M σ) {a : Int} {z : Sl} (h : slOK M.size a) (hz : SlR z) (hr : rightS z = true) : Enc (stM M a z) (setA σ a z) ∧ stE M a z = 0 ∧ (stM M a z).size = M.size := by
  obtain ⟨h0, h1, h2⟩ := h
  have hn := E.s2
  have he : f99_0 ⟨a, M⟩ = 0 := by rw [errS_eq ⟨h0, by omega⟩]; exact errS_mk h1 h2
  have hr' : f34_0 z.k z.a z.b z.r z.g z.s z.m z.x z.p z.d = true := hr
  have k10 : f91_10 ⟨a, z.k, z.a, z.b, z.r, z.g, z.s, z.m, z.x, z.p, z.d, M⟩ = false := by simp [f91_10, he]
  have k11 : f91_11 ⟨a, z.k, z.a, z.b, z.r, z.g, z.s, z.m, z.x, z.p, z.d, M⟩ = false := by simp [f91_11, hr']
  have hN : stM M a z = wrM (wrM (wrM (wrM M (IntKind.u64.wrap (a + 0)) (wd0 z)) (IntKind.u64.wrap (a + 8)) (wd1 z)) (IntKind.u64.wrap (a + 16)) (wd2 z)) (IntKind.u64.wrap (a + 24)) (wd3 z) := by
    show mrgM (f91_10 _) M (mrgM (f91_11 _) M _) = _
    rw [k10, k11]
    rfl
  obtain ⟨f0, f8, f16, f24, fo⟩ := four (M := M) (a := a) (w0 := wd0 z) (w1 := wd1 z) (w2 := wd2 z) (w3 := wd3 z) h0 h1 h2 E.s0 hn
  rw [← hN] at f0 f8 f16 f24 fo
  have hsz : (stM M a z).size = M.size := by rw [hN]; rfl
  refine ⟨⟨by rw [hsz]; exact E.s0, by rw [hsz]; exact E.s1, by rw [hsz]; exact hn, ?_, ?_⟩, ?_, hsz⟩
  · intro i hi
    rw [hsz] at hi
    by_cases e : i = a
    · subst e; rw [setA_same]; exact ⟨hz, hr⟩
    · rw [setA_other e]; exact E.ok i hi
  · intro i hi
    rw [hsz] at hi
    by_cases e : i = a
    · subst e; rw [setA_same]; exact ⟨f0, f8, f16, f24⟩
    · rw [setA_other e]
      obtain ⟨i0, i1, i2⟩ := hi
      obtain ⟨w0, w1, w2, w3⟩ := E.w i ⟨i0, i1, i2⟩
      refine ⟨?_, ?_, ?_, ?_⟩
      · rw [fo _ (by omega) (by omega) (by omega) (by omega)]; exact w0
      · rw [fo _ (by omega) (by omega) (by omega) (by omega)]; exact w1
      · rw [fo _ (by omega) (by omega) (by omega) (by omega)]; exact w2
      · rw [fo _ (by omega) (by omega) (by omega) (by omega)]; exact w3
  · rw [stE_any, he, hr]; rfl
theorem sl0_right : rightS sl0 = true := by decide +kernel
theorem Enc.new {n : Int} (h0 : n % 32 = 0) (h1 : 0 < n) (h2 : n ≤ 4294967296) : Enc (newM n) (fun _ => sl0) := by
  have e0 : wd0 sl0 = 0 := by decide +kernel
  have e1 : wd1 sl0 = 0 := by decide +kernel
  have e2 : wd2 sl0 = 0 := by decide +kernel
  have e3 : wd3 sl0 = 0 := by decide +kernel
  refine ⟨h0, h1, h2, fun a _ => ⟨sl0_R, sl0_right⟩, fun a _ => ?_⟩
  rw [e0, e1, e2, e3]
  exact ⟨rfl, rfl, rfl, rfl⟩
/-- A link that may stand in a slot. -/
def lnk (y : Int) : Prop := 0 ≤ y ∧ y < 4294967296 ∧ y % 32 = 0
theorem right_x {z : Sl} (h : SlR z) (hr : rightS z = true) {y : Int} (hy : lnk y) : SlR { z with x := y } ∧ rightS { z with x := y } = true := by
  have h2 : SlR { z with x := y } := h.setX ⟨hy.1, by have := hy.2.1; omega⟩
  obtain ⟨q1, q2, q3, q4⟩ := (rightS_iff h).1 hr
  exact ⟨h2, (rightS_iff h2).2 ⟨q1, ⟨hy.2.1, hy.2.2⟩, q3, q4⟩⟩
theorem right_p {z : Sl} (h : SlR z) (hr : rightS z = true) {y : Int} (hy : lnk y) : SlR { z with p := y } ∧ rightS { z with p := y } = true := by
  have h2 : SlR { z with p := y } := h.setP ⟨hy.1, by have := hy.2.1; omega⟩
  obtain ⟨q1, q2, q3, q4⟩ := (rightS_iff h).1 hr
  exact ⟨h2, (rightS_iff h2).2 ⟨q1, q2, ⟨hy.2.1, hy.2.2⟩, q4⟩⟩
def xA (σ : Int → Sl) (a y : Int) : Int → Sl := if a = 0 then σ else setA σ a { σ a with x := y }
def pA (σ : Int → Sl) (a y : Int) : Int → Sl := if a = 0 then σ else setA σ a { σ a with p := y }
def tieA (σ : Int → Sl) (a b : Int) : Int → Sl := pA (xA σ a b) b a
theorem mrgM_f (A B : Mem) : mrgM false A B = B := rfl
theorem Enc.tX {M : Mem} {σ : Int → Sl} (E : Enc M σ) {a y : Int} (h : a = 0 ∨ slOK M.size a) (hy : lnk y) : Enc (tX M a y) (xA σ a y) ∧ (tX M a y).size = M.size := by
  by_cases e : a = 0
  · subst e
    exact ⟨E, rfl⟩
  · have hb : (a == 0) = false := beq_eq_false_iff_ne.2 e
    have h := h.resolve_left e
    obtain ⟨k1, k2⟩ := E.ok a h
    obtain ⟨r1, r2⟩ := right_x k1 k2 hy
    have hl := (E.ld h).1
    unfold Go.Sx.M.tX xA
    rw [hb, mrgM_f, if_neg e, hl]
    obtain ⟨s1, _, s3⟩ := E.st h r1 r2
    exact ⟨s1, s3⟩
theorem Enc.tP {M : Mem} {σ : Int → Sl} (E : Enc M σ) {a y : Int} (h : a = 0 ∨ slOK M.size a) (hy : lnk y) : Enc (tP M a y) (pA σ a y) ∧ (tP M a y).size = M.size := by
  by_cases e : a = 0
  · subst e
    exact ⟨E, rfl⟩
  · have hb : (a == 0) = false := beq_eq_false_iff_ne.2 e
    have h := h.resolve_left e
    obtain ⟨k1, k2⟩ := E.ok a h
    obtain ⟨r1, r2⟩ := right_p k1 k2 hy
    have hl := (E.ld h).1
    unfold Go.Sx.M.tP pA
    rw [hb, mrgM_f, if_neg e, hl]
    obtain ⟨s1, _, s3⟩ := E.st h r1 r2
    exact ⟨s1, s3⟩
theorem slOK.lnk {n a : Int} (h : slOK n a) (hn : n ≤ 4294967296) : lnk a := ⟨h.1, by have := h.2.2; omega, h.2.1⟩
theorem Enc.tie {M : Mem} {σ : Int → Sl} (E : Enc M σ) {a b : Int} (ha : a = 0 ∨ slOK M.size a) (hb : b = 0 ∨ slOK M.size b) : Enc (tieM M a b) (tieA σ a b) ∧ (tieM M a b).size = M.size := by
  have la : lnk a := ha.elim (fun e => by subst e; exact ⟨by omega, by omega, rfl⟩) fun h => h.lnk E.s2
  have lb : lnk b := hb.elim (fun e => by subst e; exact ⟨by omega, by omega, rfl⟩) fun h => h.lnk E.s2
  obtain ⟨E1, z1⟩ := E.tX ha lb
  obtain ⟨E2, z2⟩ := E1.tP (a := b) (y := a) (by rw [z1]; exact hb) la
  exact ⟨E2, z2.trans z1⟩
end Go.Sx.M

namespace Go.Sx.M
open Go Go.Sx
/-! Nodes in a row, each one's links in its slot. -/
def hdA : List Nd → Int → Int
  | [], n => n
  | x :: _, _ => x.t
def lsA : List Nd → Int → Int
  | [], p => p
  | x :: l, _ => lsA l x.t
def sN (x : Nd) (nx pv : Int) : Sl := ⟨x.k, x.a, x.b, x.r, x.g, x.s, x.m, nx, pv, x.d⟩
def DL (σ : Int → Sl) : Int → List Nd → Int → Prop
  | _, [], _ => True
  | p, x :: l, n => σ x.t = sN x (hdA l n) p ∧ DL σ x.t l n
theorem hdA_app (l1 l2 : List Nd) (n : Int) : hdA (l1 ++ l2) n = hdA l1 (hdA l2 n) := by cases l1 <;> rfl
theorem lsA_app : ∀ (l1 l2 : List Nd) (p : Int), lsA (l1 ++ l2) p = lsA l2 (lsA l1 p)
  | [], _, _ => rfl
  | x :: l1, l2, p => lsA_app l1 l2 x.t
theorem DL_app {σ : Int → Sl} : ∀ {l1 l2 : List Nd} {p n : Int}, DL σ p (l1 ++ l2) n ↔ DL σ p l1 (hdA l2 n) ∧ DL σ (lsA l1 p) l2 n
  | [], l2, p, n => by simp [DL, lsA]
  | x :: l1, l2, p, n => by
    simp only [List.cons_append, DL, lsA]
    rw [DL_app, hdA_app]
    constructor
    · rintro ⟨a, b, c⟩; exact ⟨⟨a, b⟩, c⟩
    · rintro ⟨⟨a, b⟩, c⟩; exact ⟨a, b, c⟩
theorem DL_congr {σ τ : Int → Sl} : ∀ {l : List Nd} {p n : Int}, (∀ x, x ∈ l → τ x.t = σ x.t) → DL σ p l n → DL τ p l n
  | [], _, _, _, _ => trivial
  | x :: l, p, n, h, ⟨a, b⟩ => ⟨by rw [h x List.mem_cons_self]; exact a, DL_congr (fun y hy => h y (List.mem_cons_of_mem _ hy)) b⟩
/-- The slots of some nodes. -/
def tA (l : List Nd) : List Int := l.map Nd.t
theorem mem_tA {l : List Nd} {a : Int} : a ∈ tA l ↔ ∃ x, x ∈ l ∧ x.t = a := by simp [tA]
theorem lsA_mem : ∀ {l : List Nd} {p : Int}, l ≠ [] → lsA l p ∈ tA l
  | [], _, h => absurd rfl h
  | [x], _, _ => by simp [lsA, tA]
  | x :: y :: l, p, _ => List.mem_cons_of_mem _ (lsA_mem (l := y :: l) (p := x.t) (by simp))
theorem hdA_mem {l : List Nd} {n : Int} (h : l ≠ []) : hdA l n ∈ tA l := by
  cases l with
  | nil => exact absurd rfl h
  | cons x l => simp [hdA, tA]
/-- The last one's link. -/
theorem DL_last {σ : Int → Sl} {n' : Int} : ∀ {l : List Nd} {p n : Int}, l ≠ [] → (tA l).Nodup → DL σ p l n → DL (setA σ (lsA l 0) { σ (lsA l 0) with x := n' }) p l n'
  | [], _, _, h, _, _ => absurd rfl h
  | [x], p, n, _, _, ⟨a, _⟩ => by
    refine ⟨?_, trivial⟩
    show setA σ x.t { σ x.t with x := n' } x.t = _
    rw [setA_same, a]
    rfl
  | x :: y :: l, p, n, _, hd, ⟨a, b⟩ => by
    have hd' : x.t ∉ tA (y :: l) ∧ (tA (y :: l)).Nodup := List.nodup_cons.1 hd
    have hm : lsA (y :: l) 0 ∈ tA (y :: l) := lsA_mem (by simp)
    have hne : x.t ≠ lsA (y :: l) 0 := fun e => hd'.1 (by rw [e]; exact hm)
    refine ⟨?_, DL_last (l := y :: l) (by simp) hd'.2 b⟩
    show setA σ (lsA (y :: l) 0) _ x.t = _
    rw [setA_other hne]
    exact a
/-- The first one's link. -/
theorem DL_first {σ : Int → Sl} {p' : Int} {x : Nd} {l : List Nd} {p n : Int} (hd : (tA (x :: l)).Nodup) (h : DL σ p (x :: l) n) : DL (setA σ x.t { σ x.t with p := p' }) p' (x :: l) n := by
  obtain ⟨a, b⟩ := h
  have hd' : x.t ∉ tA l ∧ (tA l).Nodup := List.nodup_cons.1 hd
  refine ⟨?_, DL_congr (fun y hy => setA_other fun e => hd'.1 (by rw [← e]; exact mem_tA.2 ⟨y, hy, rfl⟩)) b⟩
  rw [setA_same, a]
  rfl
theorem xA_other {σ : Int → Sl} {a y c : Int} (h : c ≠ a ∨ a = 0) : xA σ a y c = σ c := by
  unfold xA
  split
  · rfl
  · exact setA_other (h.elim id fun e => absurd e (by assumption))
theorem pA_other {σ : Int → Sl} {a y c : Int} (h : c ≠ a ∨ a = 0) : pA σ a y c = σ c := by
  unfold pA
  split
  · rfl
  · exact setA_other (h.elim id fun e => absurd e (by assumption))
theorem tieA_other {σ : Int → Sl} {a b c : Int} (h1 : c ≠ a ∨ a = 0) (h2 : c ≠ b ∨ b = 0) : tieA σ a b c = σ c := by
  unfold tieA
  rw [pA_other h2, xA_other h1]
theorem DL_out {σ : Int → Sl} {a b : Int} {l : List Nd} {p n : Int} (h1 : a ∉ tA l) (h2 : b ∉ tA l) (h : DL σ p l n) : DL (tieA σ a b) p l n :=
  DL_congr (fun x hx => tieA_other (.inl fun e => h1 (by rw [← e]; exact mem_tA.2 ⟨x, hx, rfl⟩)) (.inl fun e => h2 (by rw [← e]; exact mem_tA.2 ⟨x, hx, rfl⟩))) h
theorem DL_left {σ : Int → Sl} {a b : Int} {l : List Nd} {p n : Int} (hne : l ≠ []) (ha : lsA l 0 = a) (h0 : (0 : Int) ∉ tA l) (hd : (tA l).Nodup) (h2 : b ∉ tA l) (h : DL σ p l n) : DL (tieA σ a b) p l b := by
  have hm : a ∈ tA l := by rw [← ha]; exact lsA_mem hne
  have ha0 : a ≠ 0 := fun e => h0 (by rw [← e]; exact hm)
  refine DL_congr (σ := xA σ a b) (fun x hx => pA_other (.inl fun e => h2 (by rw [← e]; exact mem_tA.2 ⟨x, hx, rfl⟩))) ?_
  unfold xA
  rw [if_neg ha0, ← ha]
  exact DL_last hne hd h
theorem DL_right {σ : Int → Sl} {a b : Int} {l : List Nd} {p n : Int} (hne : l ≠ []) (hb : hdA l 0 = b) (h0 : (0 : Int) ∉ tA l) (hd : (tA l).Nodup) (h1 : a ∉ tA l) (h : DL σ p l n) : DL (tieA σ a b) a l n := by
  cases l with
  | nil => exact absurd rfl hne
  | cons x l =>
    have hb : x.t = b := hb
    subst hb
    have hb0 : x.t ≠ 0 := fun e => h0 (by rw [← e]; simp [tA])
    unfold tieA pA
    rw [if_neg hb0]
    refine DL_first hd (p := p) (DL_congr (fun y hy => xA_other (.inl fun e => h1 (by rw [← e]; exact mem_tA.2 ⟨y, hy, rfl⟩))) h)
theorem tA_app (l1 l2 : List Nd) : tA (l1 ++ l2) = tA l1 ++ tA l2 := List.map_append ..
/-- Two pieces, tied. -/
theorem join2 {σ : Int → Sl} {l1 l2 : List Nd} {n p m : Int} (hd : (tA (l1 ++ l2)).Nodup) (h0 : (0 : Int) ∉ tA (l1 ++ l2)) (hm : l2 = [] → m = 0) (h1 : DL σ 0 l1 n) (h2 : DL σ p l2 m) : DL (tieA σ (lsA l1 0) (hdA l2 0)) 0 (l1 ++ l2) m := by
  rw [tA_app] at hd h0
  obtain ⟨d1, d2, d3⟩ := List.nodup_append.1 hd
  have z1 : (0 : Int) ∉ tA l1 := fun h => h0 (List.mem_append_left _ h)
  have z2 : (0 : Int) ∉ tA l2 := fun h => h0 (List.mem_append_right _ h)
  rw [DL_app]
  by_cases e1 : l1 = []
  · subst e1
    refine ⟨trivial, ?_⟩
    by_cases e2 : l2 = []
    · subst e2; exact trivial
    · exact DL_right e2 rfl z2 d2 z2 h2
  · have m1 : lsA l1 0 ∈ tA l1 := lsA_mem e1
    by_cases e2 : l2 = []
    · subst e2
      rw [hm rfl]
      exact ⟨DL_left e1 rfl z1 d1 z1 h1, trivial⟩
    · have m2 : hdA l2 0 ∈ tA l2 := hdA_mem e2
      have e3 : hdA l2 m = hdA l2 0 := by cases l2 with
        | nil => exact absurd rfl e2
        | cons _ _ => rfl
      rw [e3]
      exact ⟨DL_left e1 rfl z1 d1 (fun h => d3 _ h _ m2 rfl) h1, DL_right e2 rfl z2 d2 (fun h => d3 _ m1 _ h rfl) h2⟩
/-- One between two, tied. -/
theorem join3 {σ : Int → Sl} {l1 l2 : List Nd} {x : Nd} {n1 p n p2 : Int} (hd : (tA (l1 ++ x :: l2)).Nodup) (h0 : (0 : Int) ∉ tA (l1 ++ x :: l2)) (h1 : DL σ 0 l1 n1) (hx : DL σ p [x] n) (h2 : DL σ p2 l2 0) :
    DL (tieA (tieA σ (lsA l1 0) x.t) x.t (hdA l2 0)) 0 (l1 ++ x :: l2) 0 := by
  have hd2 : (tA ((l1 ++ [x]) ++ l2)).Nodup := by simpa using hd
  have h02 : (0 : Int) ∉ tA ((l1 ++ [x]) ++ l2) := by simpa using h0
  have hd3 := hd2
  have h03 := h02
  rw [tA_app] at hd3 h03
  obtain ⟨d1, d2, d3⟩ := List.nodup_append.1 hd3
  have z1 : (0 : Int) ∉ tA (l1 ++ [x]) := fun h => h03 (List.mem_append_left _ h)
  have z2 : (0 : Int) ∉ tA l2 := fun h => h03 (List.mem_append_right _ h)
  have mx : x.t ∈ tA (l1 ++ [x]) := by rw [tA_app]; exact List.mem_append_right _ (by simp [tA])
  have k1 : DL (tieA σ (lsA l1 0) x.t) 0 (l1 ++ [x]) n := join2 (l2 := [x]) d1 z1 (fun e => by cases e) h1 hx
  have ma : lsA l1 0 ∉ tA l2 := by
    by_cases e1 : l1 = []
    · subst e1; exact z2
    · intro h
      exact d3 _ (by rw [tA_app]; exact List.mem_append_left _ (lsA_mem e1)) _ h rfl
  have k2 : DL (tieA σ (lsA l1 0) x.t) p2 l2 0 := DL_out ma (fun h => d3 _ mx _ h rfl) h2
  have k3 := join2 hd2 h02 (fun _ => rfl) k1 k2
  have el : lsA (l1 ++ [x]) 0 = x.t := by rw [lsA_app]; rfl
  rw [el] at k3
  simpa using k3
end Go.Sx.M

namespace Go.Sx.M
open Go Go.Sx
theorem right_eqS {z : Sl} (h : SlR z) : f45_1 z.k z.a z.b z.r z.g z.s z.m = f50_2 z.k z.a z.b z.r z.g z.s z.m := right_eq h.a.1 h.a.2 h.b h.m.1 h.m.2 h.g.2
/-- A node that may stand in a tree. -/
structure NdOk (n : Int) (x : Nd) : Prop where
  at_ : slOK n x.t
  nz : x.t ≠ 0
  k : x.k ≠ 0
  R : SlR (slN x)
  r : rgt (slN x) = true
  d0 : 0 ≤ x.d
  d1 : x.d ≤ 4096
theorem sN_ok {n : Int} {x : Nd} (h : NdOk n x) {a b : Int} (ha : lnk a) (hb : lnk b) : SlR (sN x a b) ∧ rightS (sN x a b) = true := by
  have h2 : SlR (sN x a b) := ⟨h.R.k, h.R.a, h.R.b, h.R.r, h.R.g, h.R.s, h.R.m, ⟨ha.1, by have := ha.2.1; show a < 18446744073709551616; omega⟩, ⟨hb.1, by have := hb.2.1; show b < 18446744073709551616; omega⟩, ⟨by have := h.d0; show -9223372036854775808 ≤ x.d; omega, by have := h.d1; show x.d < 9223372036854775808; omega⟩⟩
  exact ⟨h2, (rightS_iff h2).2 ⟨h.r, ⟨ha.2.1, ha.2.2⟩, ⟨hb.2.1, hb.2.2⟩, h.d0, h.d1⟩⟩
/-- The tree holds these nodes. -/
structure RepS (t : TS) (l : List Nd) (σ : Int → Sl) : Prop where
  E : Enc t.M σ
  f : t.f = hdA l 0
  c : t.c = l.length
  nd : (tA l).Nodup
  ok : ∀ x, x ∈ l → NdOk t.M.size x
  dl : DL σ 0 l 0
  out : ∀ a, a ∉ tA l → slOK t.M.size a → σ a = sl0
theorem RepS.z0 {t : TS} {l : List Nd} {σ : Int → Sl} (h : RepS t l σ) : (0 : Int) ∉ tA l := fun e => by
  obtain ⟨x, hx, hz⟩ := mem_tA.1 e
  exact (h.ok x hx).nz hz
theorem DL_mem {σ : Int → Sl} : ∀ {l : List Nd} {p n : Int} {x : Nd}, DL σ p l n → x ∈ l → ∃ a b, σ x.t = sN x a b
  | [], _, _, _, _, h => by cases h
  | y :: l, p, n, x, ⟨a, b⟩, h => by
    rcases List.mem_cons.1 h with rfl | h
    · exact ⟨_, _, a⟩
    · exact DL_mem b h
/-- The node of a slot. -/
theorem fnd_spec {l : List Nd} (hd : (tA l).Nodup) (a : Int) : (∃ i : Nat, i < l.length ∧ (gN l i).t = a ∧ fnd l a = i ∧ gN l i ∈ l ∧ l = l.take i ++ gN l i :: l.drop (i + 1)) ∨ (a ∉ tA l ∧ fnd l a = -1) := by
  have e := nds_gN l
  rcases fnd_cases (gN l) l.length a with ⟨i, h1, h2, _, h4⟩ | ⟨h1, h2⟩
  · rw [e] at h4
    have hg : gN l i = l[i] := by simp [gN, List.getD, List.getElem?_eq_getElem h1]
    refine .inl ⟨i, h1, h2, h4, by rw [hg]; exact List.getElem_mem h1, ?_⟩
    rw [hg, List.getElem_cons_drop h1, List.take_append_drop]
  · rw [e] at h2
    refine .inr ⟨fun hm => ?_, h2⟩
    obtain ⟨x, hx, rfl⟩ := mem_tA.1 hm
    obtain ⟨i, hi, rfl⟩ := List.getElem_of_mem hx
    exact h1 i hi (by simp [gN, List.getD, List.getElem?_eq_getElem hi])
theorem mayT_eq {n a : Int} (h : 0 ≤ a) : mayT n a = errS n a := by
  unfold mayT errS
  rw [Int.tmod_eq_emod_of_nonneg h]
  by_cases h1 : a % 32 = 0
  · by_cases h2 : n ≤ a <;> simp [cnd_eq, h1, h2]
  · simp [cnd_eq, h1]
theorem mayT_ok {n a : Int} (h : 0 ≤ a) : mayT n a = 0 ↔ slOK n a := by
  rw [mayT_eq h]
  exact ⟨fun e => ⟨h, (errS_ok e).1, (errS_ok e).2⟩, fun e => errS_mk e.2.1 e.2.2⟩
/-- What is loaded where. -/
theorem RepS.ld {t : TS} {l : List Nd} {σ : Int → Sl} (h : RepS t l σ) {a : Int} (hu : U64 a) :
    (slOK t.M.size a ∧ mayT t.M.size a = 0 ∧ ldE t.M a = 0 ∧ ld t.M a = σ a ∧ ((∃ i : Nat, i < l.length ∧ (gN l i).t = a ∧ fnd l a = i ∧ gN l i ∈ l ∧ l = l.take i ++ gN l i :: l.drop (i + 1)) ∨ (a ∉ tA l ∧ fnd l a = -1 ∧ σ a = sl0))) ∨
      (¬ slOK t.M.size a ∧ mayT t.M.size a ≠ 0 ∧ ldE t.M a = mayT t.M.size a ∧ ld t.M a = sl0 ∧ fnd l a = -1 ∧ a ∉ tA l) := by
  by_cases hs : slOK t.M.size a
  · obtain ⟨h1, h2⟩ := h.E.ld hs
    refine .inl ⟨hs, (mayT_ok hu.1).2 hs, h2, h1, ?_⟩
    rcases fnd_spec h.nd a with q | ⟨q1, q2⟩
    · exact .inl q
    · exact .inr ⟨q1, q2, h.out a q1 hs⟩
  · obtain ⟨h1, h2, h3⟩ := ld_not (M := t.M) hu hs
    have hm : a ∉ tA l := fun e => by
      obtain ⟨x, hx, rfl⟩ := mem_tA.1 e
      exact hs (h.ok x hx).at_
    refine .inr ⟨hs, fun e => hs ((mayT_ok hu.1).1 e), by rw [h2, mayT_eq hu.1], h1, ?_, hm⟩
    rcases fnd_spec h.nd a with ⟨i, _, q2, _, q4, _⟩ | ⟨_, q2⟩
    · exact absurd (mem_tA.2 ⟨_, q4, q2⟩) hm
    · exact q2
theorem RepS.hdE {t : TS} {l : List Nd} {σ : Int → Sl} (h : RepS t l σ) {a : Int} (hu : U64 a) : hdE t.M a = hdT t.M.size l a := by
  unfold Go.Sx.M.hdE hdT
  rcases h.ld hu with ⟨_, m0, e0, el, ⟨i, _, ht, hf, hm, _⟩ | ⟨_, hf, hz⟩⟩ | ⟨_, m0, e0, el, hf, _⟩
  · obtain ⟨p, q, hs⟩ := DL_mem h.dl hm
    rw [ht] at hs
    have hk := (h.ok _ hm).k
    have hi1 : ¬ ((i : Int) < 0) := by omega
    have hi2 : (0 : Int) ≤ i := by omega
    rw [e0, m0, el, hs, hf]
    simp [cnd_eq, sN, hk, hi1]
  · rw [e0, m0, el, hz, hf]
    simp [cnd_eq, sl0]
  · rw [e0, hf]
    simp [cnd_eq, m0]
theorem RepS.frE {t : TS} {l : List Nd} {σ : Int → Sl} (h : RepS t l σ) {a : Int} (hu : U64 a) : frE t.M a = frT t.M.size l a := by
  unfold Go.Sx.M.frE frT
  rcases h.ld hu with ⟨_, m0, e0, el, ⟨i, _, ht, hf, hm, _⟩ | ⟨_, hf, hz⟩⟩ | ⟨_, m0, e0, el, hf, _⟩
  · obtain ⟨p, q, hs⟩ := DL_mem h.dl hm
    rw [ht] at hs
    have hk := (h.ok _ hm).k
    have hi1 : ¬ ((i : Int) < 0) := by omega
    have hi2 : (0 : Int) ≤ i := by omega
    rw [e0, m0, el, hs, hf]
    by_cases ha : a = 0 <;> simp [cnd_eq, sN, hk, ha, hi2]
  · rw [e0, m0, el, hz, hf]
    by_cases ha : a = 0 <;> simp [cnd_eq, sl0, ha]
  · rw [e0, hf]
    simp [cnd_eq, m0]
theorem mayC_eq {x : Nd} (h : SlR (slN x)) : mayC (slN x) = cnd (badC x) 10 0 := by
  have e := right_eqS h
  have e : f45_1 x.k x.a x.b x.r x.g x.s x.m = f50_2 x.k x.a x.b x.r x.g x.s x.m := e
  simp only [mayC, slN, f178_0, badC, e]
theorem RepS.ftE {t : TS} {l : List Nd} {σ : Int → Sl} (h : RepS t l σ) {x : Nd} (hu : U64 x.t) (hx : SlR (slN x)) : ftE t.M t.c x.t (slN x) = ftT t.M.size l x := by
  unfold Go.Sx.M.ftE ftT
  rw [h.frE hu, mayC_eq hx, h.c]
  cases badC x <;> rfl
end Go.Sx.M

namespace Go.Sx.M
open Go Go.Sx
theorem ends_ne {l : List Nd} {a : Int} (h : a ∉ tA l) : (a ≠ lsA l 0 ∨ lsA l 0 = 0) ∧ (a ≠ hdA l 0 ∨ hdA l 0 = 0) := by
  by_cases e : l = []
  · subst e; exact ⟨.inr rfl, .inr rfl⟩
  · exact ⟨.inl fun k => h (by rw [k]; exact lsA_mem e), .inl fun k => h (by rw [k]; exact hdA_mem e)⟩
theorem lsA_ok {n : Int} {l : List Nd} (h : ∀ x, x ∈ l → NdOk n x) : lsA l 0 = 0 ∨ slOK n (lsA l 0) := by
  by_cases e : l = []
  · subst e; exact .inl rfl
  · obtain ⟨x, hx, ht⟩ := mem_tA.1 (lsA_mem (p := 0) e)
    rw [← ht]
    exact .inr (h x hx).at_
theorem hdA_ok {n : Int} {l : List Nd} (h : ∀ x, x ∈ l → NdOk n x) : hdA l 0 = 0 ∨ slOK n (hdA l 0) := by
  by_cases e : l = []
  · subst e; exact .inl rfl
  · obtain ⟨x, hx, ht⟩ := mem_tA.1 (hdA_mem (n := 0) e)
    rw [← ht]
    exact .inr (h x hx).at_
theorem lnk0 : lnk 0 := ⟨by omega, by omega, rfl⟩
theorem lsA_nz {n : Int} {l : List Nd} (h : ∀ x, x ∈ l → NdOk n x) (e : l ≠ []) : lsA l 0 ≠ 0 := by
  obtain ⟨x, hx, ht⟩ := mem_tA.1 (lsA_mem (p := 0) e)
  rw [← ht]
  exact (h x hx).nz
/-- The first slot, once two pieces are tied. -/
theorem tieF_hd {n : Int} {l1 l2 : List Nd} {f : Int} (h : ∀ x, x ∈ l1 → NdOk n x) (hf : l1 ≠ [] → f = hdA l1 0) : tieF f (lsA l1 0) (hdA l2 0) = hdA (l1 ++ l2) 0 := by
  unfold tieF
  by_cases e : l1 = []
  · subst e; rfl
  · rw [beq_eq_false_iff_ne.2 (lsA_nz h e)]
    show f = _
    rw [hf e, hdA_app]
    cases l1 with
    | nil => exact absurd rfl e
    | cons _ _ => rfl
theorem RepS.ins {t : TS} {l1 l2 : List Nd} {σ : Int → Sl} (h : RepS t (l1 ++ l2) σ) {x : Nd} (hx : NdOk t.M.size x) (hn : x.t ∉ tA (l1 ++ l2)) (hl : (l1 ++ l2).length ≤ 100000) :
    ∃ τ, RepS ⟨insM t.M (lsA l1 0) (hdA l2 0) x.t (slN x) x.d, insF t.f (lsA l1 0) (hdA l2 0) x.t, IntKind.i64.wrap (t.c + 1)⟩ (l1 ++ x :: l2) τ := by
  have ok1 : ∀ y, y ∈ l1 → NdOk t.M.size y := fun y hy => h.ok y (List.mem_append_left _ hy)
  have ok2 : ∀ y, y ∈ l2 → NdOk t.M.size y := fun y hy => h.ok y (List.mem_append_right _ hy)
  obtain ⟨r1, r2⟩ := sN_ok hx lnk0 lnk0
  obtain ⟨E1, _, z1⟩ := h.E.st hx.at_ r1 r2
  obtain ⟨E2, z2⟩ := E1.tie (a := lsA l1 0) (b := x.t) (by rw [z1]; exact lsA_ok ok1) (by rw [z1]; exact .inr hx.at_)
  obtain ⟨E3, z3⟩ := E2.tie (a := x.t) (b := hdA l2 0) (by rw [z2, z1]; exact .inr hx.at_) (by rw [z2, z1]; exact hdA_ok ok2)
  have hsz : (insM t.M (lsA l1 0) (hdA l2 0) x.t (slN x) x.d).size = t.M.size := ins_size _ _ _ _ _ _
  rw [tA_app] at hn
  have n1 : x.t ∉ tA l1 := fun e => hn (List.mem_append_left _ e)
  have n2 : x.t ∉ tA l2 := fun e => hn (List.mem_append_right _ e)
  obtain ⟨q1, q2⟩ := DL_app.1 h.dl
  have nd := h.nd
  rw [tA_app] at nd
  obtain ⟨d1, d2, d3⟩ := List.nodup_append.1 nd
  have hd : (tA (l1 ++ x :: l2)).Nodup := by
    rw [tA_app]
    refine List.nodup_append.2 ⟨d1, List.nodup_cons.2 ⟨n2, d2⟩, ?_⟩
    intro a ha b hb e
    rcases List.mem_cons.1 hb with rfl | hb
    · exact n1 (by rw [← e]; exact ha)
    · exact d3 a ha b hb e
  have z0 := h.z0
  rw [tA_app] at z0
  have h0 : (0 : Int) ∉ tA (l1 ++ x :: l2) := by
    rw [tA_app]
    intro e
    rcases List.mem_append.1 e with e | e
    · exact z0 (List.mem_append_left _ e)
    · rcases List.mem_cons.1 e with e | e
      · exact hx.nz e.symm
      · exact z0 (List.mem_append_right _ e)
  refine ⟨_, E3, ?_, ?_, hd, ?_, ?_, ?_⟩
  · show tieF (tieF t.f (lsA l1 0) x.t) x.t (hdA l2 0) = _
    have e1 : tieF t.f (lsA l1 0) x.t = hdA (l1 ++ [x]) 0 := tieF_hd (l2 := [x]) ok1 fun e => by
      rw [h.f, hdA_app]
      cases l1 with
      | nil => exact absurd rfl e
      | cons _ _ => rfl
    rw [e1]
    have e2 : lsA (l1 ++ [x]) 0 = x.t := by rw [lsA_app]; rfl
    have := tieF_hd (n := t.M.size) (l1 := l1 ++ [x]) (l2 := l2) (f := hdA (l1 ++ [x]) 0) (fun y hy => by
      rcases List.mem_append.1 hy with hy | hy
      · exact ok1 y hy
      · simp at hy; subst hy; exact hx) fun _ => rfl
    rw [e2] at this
    rw [this]
    simp
  · show IntKind.i64.wrap (t.c + 1) = _
    rw [h.c, wi (by omega) (by omega)]
    simp only [List.length_append, List.length_cons]
    omega
  · intro y hy
    show NdOk (insM t.M (lsA l1 0) (hdA l2 0) x.t (slN x) x.d).size y
    rw [hsz]
    rcases List.mem_append.1 hy with hy | hy
    · exact ok1 y hy
    · rcases List.mem_cons.1 hy with rfl | hy
      · exact hx
      · exact ok2 y hy
  · refine join3 (n := 0) (p := 0) hd h0 (DL_congr (fun y hy => setA_other fun e => n1 (by rw [← e]; exact mem_tA.2 ⟨y, hy, rfl⟩)) q1) ?_ (DL_congr (fun y hy => setA_other fun e => n2 (by rw [← e]; exact mem_tA.2 ⟨y, hy, rfl⟩)) q2)
    exact ⟨setA_same, trivial⟩
  · intro a ha hs
    have hs : slOK (insM t.M (lsA l1 0) (hdA l2 0) x.t (slN x) x.d).size a := hs
    rw [hsz] at hs
    rw [tA_app] at ha
    have a1 : a ∉ tA l1 := fun e => ha (List.mem_append_left _ e)
    have a2 : a ∉ tA l2 := fun e => ha (List.mem_append_right _ (List.mem_cons_of_mem _ e))
    have ax : a ≠ x.t := fun e => ha (List.mem_append_right _ (by rw [e]; exact List.mem_cons_self))
    rw [tieA_other (.inl ax) (ends_ne a2).2, tieA_other (ends_ne a1).1 (.inl ax)]
    show setA σ x.t _ a = _
    rw [setA_other ax]
    exact h.out a (by rw [tA_app]; exact fun e => (List.mem_append.1 e).elim a1 a2) hs
theorem badC_ok {x : Nd} (h : SlR (slN x)) (hb : badC x = false) : x.k ≠ 0 ∧ rgt (slN x) = true := by
  have e := right_eqS h
  have e : f45_1 x.k x.a x.b x.r x.g x.s x.m = f50_2 x.k x.a x.b x.r x.g x.s x.m := e
  unfold badC at hb
  rw [← e] at hb
  have hr : f45_1 x.k x.a x.b x.r x.g x.s x.m = true := by
    cases hh : f45_1 x.k x.a x.b x.r x.g x.s x.m with
    | true => rfl
    | false => rw [hh] at hb; cases hb
  rw [hr] at hb
  have hb : (x.k == 0) = false := hb
  exact ⟨fun e => (by rw [e] at hb; cases hb), hr⟩
theorem ftT_ok {z : Int} {l : List Nd} {x : Nd} (hu : 0 ≤ x.t) (h : ftT z l x = 0) : slOK z x.t ∧ x.t ≠ 0 ∧ fnd l x.t < 0 ∧ badC x = false ∧ l.length < 65536 := by
  unfold ftT frT at h
  simp only [cnd_eq] at h
  by_cases m : mayT z x.t = 0
  · refine ⟨(mayT_ok hu).1 m, ?_⟩
    grind
  · grind
theorem RepS.root {t : TS} {l : List Nd} {σ : Int → Sl} (h : RepS t l σ) {x : Nd} (hu : U64 x.t) (hx : SlR (slN x)) (hd : x.d = 0) (hl : l.length ≤ 100000) :
    rtE t x.t (slN x) = rtR t.M.size l x ∧ (∃ τ, RepS (rtT t x.t (slN x)) (rtL t.M.size l x) τ) ∧ (rtT t x.t (slN x)).M.size = t.M.size := by
  have e := h.ftE hu hx
  unfold rtE rtT rtR rtL
  rw [e]
  by_cases hz : ftT t.M.size l x = 0
  · obtain ⟨q1, q2, q3, q4, q5⟩ := ftT_ok hu.1 hz
    obtain ⟨b1, b2⟩ := badC_ok hx q4
    have hok : NdOk t.M.size x := ⟨q1, q2, b1, hx, b2, by omega, by omega⟩
    have hn : x.t ∉ tA ([] ++ l) := by
      rcases fnd_spec h.nd x.t with ⟨i, _, _, q, _⟩ | ⟨q, _⟩
      · omega
      · exact q
    obtain ⟨τ, R⟩ := RepS.ins (l1 := []) h hok hn hl
    have hb : (ftT t.M.size l x != 0) = false := by simp [hz]
    rw [hb]
    refine ⟨rfl, ⟨τ, ?_⟩, ins_size _ _ _ _ _ _⟩
    have hf := h.f
    rw [hd] at R
    have e1 : lsA ([] : List Nd) 0 = 0 := rfl
    rw [e1, ← hf] at R
    exact R
  · have hb : (ftT t.M.size l x != 0) = true := by simp [hz]
    rw [hb]
    exact ⟨rfl, ⟨σ, h⟩, rfl⟩
end Go.Sx.M

namespace Go.Sx.M
open Go Go.Sx
theorem cnd_f {α : Type} (a b : α) : cnd false a b = b := rfl
theorem cnd_t {α : Type} (a b : α) : cnd true a b = a := rfl
theorem op0_rep : RepS op0.1 [] (fun _ => sl0) :=
  ⟨Enc.new (by decide) (by decide) (by decide), rfl, rfl, List.nodup_nil, fun x h => (by cases h), trivial, fun _ _ _ => rfl⟩
theorem opS_rep (f : Nat → Nd) : ∀ (i : Nat), i ≤ 1000 → (∀ j, j < i → U64 (f j).t ∧ SlR (slN (f j)) ∧ (f j).d = 0) → (∃ σ, RepS (opS (nds f i)).1 (opS (nds f i)).2 σ) ∧ (opS (nds f i)).1.M.size = 65536
  | 0, _, _ => ⟨⟨_, op0_rep⟩, rfl⟩
  | i + 1, hi, h => by
    obtain ⟨⟨σ, R⟩, z⟩ := opS_rep f i (by omega) fun j hj => h j (by omega)
    obtain ⟨q1, q2, q3⟩ := h i (by omega)
    have hl := opS_len f i
    obtain ⟨_, ⟨τ, R2⟩, z2⟩ := R.root q1 q2 q3 (by omega)
    rw [opS_succ]
    rw [z] at R2 z2
    exact ⟨⟨τ, R2⟩, z2⟩
/-- Where a node stands. -/
theorem RepS.at_ {t : TS} {l : List Nd} {σ : Int → Sl} (h : RepS t l σ) {a : Int} (hu : U64 a) (he : hdT t.M.size l a = 0) :
    ∃ (l1 l2 : List Nd) (g : Nd), l = l1 ++ g :: l2 ∧ g.t = a ∧ fnd l a = l1.length ∧ atN l a = g ∧ Go.Sx.M.ld t.M a = sN g (hdA l2 0) (lsA l1 0) ∧ σ a = sN g (hdA l2 0) (lsA l1 0) ∧ slOK t.M.size a := by
  rcases h.ld hu with ⟨hs, m0, e0, el, ⟨i, hi, ht, hf, hm, hl⟩ | ⟨_, hf, hz⟩⟩ | ⟨_, m0, e0, el, hf, _⟩
  · refine ⟨l.take i, l.drop (i + 1), gN l i, hl, ht, by rw [hf, List.length_take]; omega, by unfold atN; rw [hf]; rfl, ?_⟩
    have hd := h.dl
    rw [hl] at hd
    obtain ⟨_, q⟩ := DL_app.1 hd
    obtain ⟨q, _⟩ := q
    rw [ht] at q
    exact ⟨by rw [el]; exact q, q, hs⟩
  · exfalso
    unfold hdT at he
    rw [m0, hf] at he
    cases he
  · exfalso
    unfold hdT at he
    rw [hf, beq_eq_false_iff_ne.2 m0] at he
    exact m0 he
end Go.Sx.M

namespace Go.Sx.M
open Go Go.Sx Go.Proofs Go.RowKit
end Go.Sx.M

namespace Go.Sx.M
open Go Go.Sx Go.Proofs Go.RowKit
/-- The bits that are taken. -/
theorem pT_eq {w : Nat} {l n : Int} (hw : w < 18446744073709551616) (h0 : 0 ≤ l) (h1 : 0 ≤ n) (h2 : l + n ≤ 64) (h3 : n ≤ 63) : pT w l n = ((w / 2 ^ l.toNat % 2 ^ n.toNat : Nat) : Int) := by
  unfold pT
  by_cases hn : n = 0
  · subst hn
    simp [cnd, Nat.mod_one]
  · rw [beq_eq_false_iff_ne.2 hn]
    show f102_1 l n w = _
    refine field_get hw ?_ h0 (by omega) (by omega) h3
    have hw2 : IntKind.i64.wrap (64 - l) = 64 - l := wi (by omega) (by omega)
    simp only [f165_0, hw2]
    rw [decide_eq_true (show l ≥ 0 by omega), decide_eq_true (show l < 64 by omega), decide_eq_true (show n ≥ 1 by omega), decide_eq_true (show n ≤ 64 - l by omega)]
    rfl
theorem ok_eq {z : Sl} (h : SlR z) : cnd (z.k != 2) true (!f50_2 z.k z.a z.b z.r z.g z.s z.m) = !pOk z := by
  rw [← right_eqS h]
  unfold pOk
  by_cases hk : z.k = 2
  · cases hr : f45_1 z.k z.a z.b z.r z.g z.s z.m with
    | false => simp [f124_4, f124_6, cnd_eq, hk, hr]; rw [hk] at hr; simp [hr]
    | true =>
      obtain ⟨q1, q2, q3⟩ := right_size' hr
      have hsb := (slots_bits q1).1 (.inl hk)
      have e6 : f124_6 ⟨z.k, z.a, z.b, z.r, z.g, z.s, z.m⟩ = false := by
        have e5 : f124_5 ⟨z.k, z.a, z.b, z.r, z.g, z.s, z.m⟩ = z.b + 5 := by
          simp only [f124_5, f162_0, q1, hr, q2, hsb.2.2]
          rfl
        simp only [f124_6, hr, e5]
        rw [decide_eq_false (by omega)]
        rfl
      simp only [f124_4, e6]
      simp [cnd_eq, hk]
  · simp [f124_4, cnd_eq, hk]
end Go.Sx.M

namespace Go.Sx.M
open Go Go.Sx Go.Proofs Go.RowKit
/-- The capability that the document's tree has in a slot. -/
def cpN (z : Int) (l : List Nd) (a : Int) : Sl := cnd (cnd (mayT z a != 0) true (decide (fnd l a < 0))) sl0 (slN (gN l (fnd l a).toNat))
theorem tk_eq {w : Nat} (hw : w < 18446744073709551616) {l : Int} (hl : l ≤ 64) : ∀ (i : Nat), (i : Int) ≤ l → tk113 (bitI w) l i = ((w / 2 ^ (l - i).toNat % 2 ^ i : Nat) : Int)
  | 0, _ => by simp [tk113, Nat.mod_one]
  | i + 1, h => by
    have hc := cnt_eq (n := i) (by omega)
    have e1 : IntKind.i64.wrap (IntKind.i64.wrap (l - 1) - cnt i) = l - 1 - i := by rw [hc, wrap_i64 (x := l - 1) (by omega) (by omega), wrap_i64 (by omega) (by omega)]
    have e2 : (l - 1 - (i : Int)).toNat < 64 := by omega
    have e3 : sel54 (bitI w) (l - 1 - (i : Int)).toNat = Nat.testBit w (l - 1 - (i : Int)).toNat := by
      unfold sel54
      generalize (l - 1 - (i : Int)).toNat = k at e2
      simp [List.getD_eq_getElem?_getD, e2, bitI_eq hw]
    show cnd (sel54 (bitI w) (IntKind.i64.wrap (IntKind.i64.wrap (l - 1) - cnt i)).toNat) (IntKind.u64.wrap (IntKind.u64.wrap (2 * tk113 (bitI w) l i) + 1)) (IntKind.u64.wrap (2 * tk113 (bitI w) l i)) = _
    rw [e1, e3, tk_eq hw hl i (by omega)]
    have e4 : (l - (i : Int)).toNat = (l - 1 - (i : Int)).toNat + 1 := by omega
    have e5 : (l - ((i + 1 : Nat) : Int)).toNat = (l - 1 - (i : Int)).toNat := by omega
    rw [e4, e5, Nat.testBit_eq_decide_div_mod_eq]
    generalize (l - 1 - (i : Int)).toNat = k at *
    rw [Nat.pow_succ, ← Nat.div_div_eq_div_mul]
    generalize hq : w / 2 ^ k = q
    have hqw : q < 18446744073709551616 := by rw [← hq]; exact Nat.lt_of_le_of_lt (Nat.div_le_self _ _) hw
    have hm : q % 2 ^ (i + 1) = q % 2 + 2 * (q / 2 % 2 ^ i) := by rw [Nat.pow_succ, Nat.mul_comm, Nat.mod_mul]
    have hlt : q / 2 % 2 ^ i ≤ q / 2 := Nat.mod_le _ _
    rw [hm]
    generalize q / 2 % 2 ^ i = u at hlt ⊢
    rw [wrap_u64_id (x := 2 * (u : Int)) (by omega) (by omega)]
    by_cases hb : q % 2 = 1
    · rw [decide_eq_true hb, cnd_t, wrap_u64_id (by omega) (by omega)]
      omega
    · rw [decide_eq_false hb, cnd_f]
      omega
theorem take_eq {w : Nat} (hw : w < 18446744073709551616) {l n : Int} (h0 : 0 ≤ n) (h1 : n ≤ l) (h2 : l ≤ 64) (h3 : n ≤ 63) : takeI w l n = pT w (l - n) n := by
  rw [pT_eq hw (by omega) h0 (by omega) h3]
  unfold takeI
  rw [tk_eq hw h2 n.toNat (by omega)]
  have : ((n.toNat : Nat) : Int) = n := by omega
  rw [this]
/-- A walk over what slots hold. -/
noncomputable def wrW (cf : Int → Sl) (z : Sl) (w l : Int) : Wr := wkM cf w (l.toNat + 1) l 0 (pNa z) (pNb z) (pNg z) (pNm z)
noncomputable def wrA (cf : Int → Sl) (z : Sl) (w l : Int) : Int := cnd (bgE z l != 0) 0 (cnd (!(wrW cf z w l).ok) 0 (wrW cf z w l).s)
noncomputable def wrB (cf : Int → Sl) (z : Sl) (w l : Int) : Int := cnd (bgE z l != 0) 0 (cnd (!(wrW cf z w l).ok) 0 (wrW cf z w l).l)
noncomputable def wrE (cf : Int → Sl) (z : Sl) (w l : Int) : Int := cnd (bgE z l != 0) (bgE z l) (cnd (!(wrW cf z w l).ok) 23 0)
noncomputable def wrS (cf : Int → Sl) (z : Sl) (w l : Int) : Int := cnd (bgE z l != 0) 0 (wrW cf z w l).c
/-- What every slot holds is right, a node where it says so. -/
def cfOk (cf : Int → Sl) : Prop := ∀ a, SlR (cf a) ∧ ((cf a).k = 2 → pOk (cf a) = true)
end Go.Sx.M

namespace Go.Sx.M
open Go Go.Sx Go.Proofs Go.RowKit
set_option maxRecDepth 100000
def pre68 (v : V68) : Prop := (v.Q = v.L ∧ v.L ≤ 100000)
theorem n68 (v : V68) (h : pre68 v) : (f68 v).ok ∧ (f68 v).get.1 = .tup [.agg [.int .i64 (cpN v.z (nds (ndf v.t v.k v.a v.b v.r v.g v.s v.m v.d) v.L) v.at_).k, .int .u64 (cpN v.z (nds (ndf v.t v.k v.a v.b v.r v.g v.s v.m v.d) v.L) v.at_).a, .int .i64 (cpN v.z (nds (ndf v.t v.k v.a v.b v.r v.g v.s v.m v.d) v.L) v.at_).b, .int .i64 (cpN v.z (nds (ndf v.t v.k v.a v.b v.r v.g v.s v.m v.d) v.L) v.at_).r, .int .i64 (cpN v.z (nds (ndf v.t v.k v.a v.b v.r v.g v.s v.m v.d) v.L) v.at_).g, .int .i64 (cpN v.z (nds (ndf v.t v.k v.a v.b v.r v.g v.s v.m v.d) v.L) v.at_).s, .int .u64 (cpN v.z (nds (ndf v.t v.k v.a v.b v.r v.g v.s v.m v.d) v.L) v.at_).m], .int .i64 (mayT v.z v.at_)] ∧ HOws (f68 v).get.2.1 [HO.row 100 9 v.Q (fun j => [.int .u64 (v.t j), .int .i64 (v.k j), .int .u64 (v.a j), .int .i64 (v.b j), .int .i64 (v.r j), .int .i64 (v.g j), .int .i64 (v.s j), .int .u64 (v.m j), .int .i64 (v.d j)])] := by
  have hlt := (fnd_lt (ndf v.t v.k v.a v.b v.r v.g v.s v.m v.d) v.L v.at_).2
  have h0 : f68_16 v = false → 0 ≤ f68_15 v := fun e => by
    unfold f68_16 at e
    simp only [cnd_or, Bool.or_eq_false_iff, decide_eq_false_iff_not] at e
    omega
  have e14 : f68_14 v = mayT v.z v.at_ := rfl
  have e15 : f68_15 v = fnd (nds (ndf v.t v.k v.a v.b v.r v.g v.s v.m v.d) v.L) v.at_ := rfl
  rw [← e15] at hlt
  refine ⟨⟨h, fun e => ⟨h0 e, hlt⟩, fun e => (by have h1 := h0 e; have hQ : v.Q = v.L := h.1; unfold f68_17; rw [hQ]; omega), trivial⟩, ?_, .refl _⟩
  have e16 : cnd (mayT v.z v.at_ != 0) true (decide (f68_15 v < 0)) = f68_16 v := rfl
  unfold cpN
  rw [← e15, e16]
  simp only [f68, Tr.get, f68_6, f68_7, f68_8, f68_9, f68_10, f68_11, f68_12, f68_13, f68_17]
  cases hc : f68_16 v with
  | true => rfl
  | false =>
    have hi : (f68_15 v).toNat < v.L := by have := h0 hc; omega
    have hm : mayT v.z v.at_ = 0 := by
      rw [← e16] at hc
      simp only [cnd_or, Bool.or_eq_false_iff, bne_eq_false_iff_eq] at hc
      exact hc.1
    simp only [cnd_f, gN_nds hi, hm, Nat.zero_add]
    rfl
noncomputable def f68n (v : V68) : Tr (Fin th.R) := .need (pre68 v) (.leaf (.tup [.agg [.int .i64 (cpN v.z (nds (ndf v.t v.k v.a v.b v.r v.g v.s v.m v.d) v.L) v.at_).k, .int .u64 (cpN v.z (nds (ndf v.t v.k v.a v.b v.r v.g v.s v.m v.d) v.L) v.at_).a, .int .i64 (cpN v.z (nds (ndf v.t v.k v.a v.b v.r v.g v.s v.m v.d) v.L) v.at_).b, .int .i64 (cpN v.z (nds (ndf v.t v.k v.a v.b v.r v.g v.s v.m v.d) v.L) v.at_).r, .int .i64 (cpN v.z (nds (ndf v.t v.k v.a v.b v.r v.g v.s v.m v.d) v.L) v.at_).g, .int .i64 (cpN v.z (nds (ndf v.t v.k v.a v.b v.r v.g v.s v.m v.d) v.L) v.at_).s, .int .u64 (cpN v.z (nds (ndf v.t v.k v.a v.b v.r v.g v.s v.m v.d) v.L) v.at_).m], .int .i64 (mayT v.z v.at_)], [.row 100 9 v.Q (fun j => [.int .u64 (v.t j), .int .i64 (v.k j), .int .u64 (v.a j), .int .i64 (v.b j), .int .i64 (v.r j), .int .i64 (v.g j), .int .i64 (v.s j), .int .u64 (v.m j), .int .i64 (v.d j)])], []))
theorem s68n : Sound Try.prog th 68 (fnC d68 ofV68 f68n) := fnC_refine s68 fun v h => by
  obtain ⟨hp, _⟩ := h
  obtain ⟨a, b, c⟩ := n68 v hp
  exact ⟨a, b.symm, (qdd68 v).symm, c, by show 1 ≤ 1; decide⟩
noncomputable def nice68n : List (Nat × CF th.R) := (68, lift (fnC d68 ofV68 f68n)) :: nice113
theorem nok68n : NiceOk Try.prog th nice68n := ⟨lift_sound s68n, nok113⟩
end Go.Sx.M

namespace Go.Sx.M
open Go Go.Sx Go.Proofs Go.RowKit
set_option maxRecDepth 100000
structure V38 where
  z : Int
  L : Nat
  kr : Int
  ar : Int
  br : Int
  rr : Int
  gr : Int
  sr : Int
  mr : Int
  w : Int
  l : Int
  Q : Nat
  t : Nat → Int
  k : Nat → Int
  a : Nat → Int
  b : Nat → Int
  r : Nat → Int
  g : Nat → Int
  s : Nat → Int
  m : Nat → Int
  d : Nat → Int
def A38 (v : V38) : List SV := [.agg [.int .u64 v.z, .slc 0 9 0 v.L], .agg [.int .i64 v.kr, .int .u64 v.ar, .int .i64 v.br, .int .i64 v.rr, .int .i64 v.gr, .int .i64 v.sr, .int .u64 v.mr], .int .u64 v.w, .int .i64 v.l]
def H38 (v : V38) : List (HO th.R) := [.row 100 9 v.Q (fun j => [.int .u64 (v.t j), .int .i64 (v.k j), .int .u64 (v.a j), .int .i64 (v.b j), .int .i64 (v.r j), .int .i64 (v.g j), .int .i64 (v.s j), .int .u64 (v.m j), .int .i64 (v.d j)])]
def toV38 (v : V38) : List (Vl th.R) := [.i v.z, .n v.L, .i v.kr, .i v.ar, .i v.br, .i v.rr, .i v.gr, .i v.sr, .i v.mr, .i v.w, .i v.l, .n v.Q, .c v.t, .c v.k, .c v.a, .c v.b, .c v.r, .c v.g, .c v.s, .c v.m, .c v.d]
def ofV38 : List (Vl th.R) → Option V38
  | [.i z, .n L, .i kr, .i ar, .i br, .i rr, .i gr, .i sr, .i mr, .i w, .i l, .n Q, .c t, .c k, .c a, .c b, .c r, .c g, .c s, .c m, .c d] => some ⟨z, L, kr, ar, br, rr, gr, sr, mr, w, l, Q, t, k, a, b, r, g, s, m, d⟩
  | _ => none
def d38 : Ft := ⟨[.agg [.int .u64, .slc0 0 9], .agg [.int .i64, .int .u64, .int .i64, .int .i64, .int .i64, .int .i64, .int .u64], .int .u64, .int .i64], [.rowc 100 [.int .u64, .int .i64, .int .u64, .int .i64, .int .i64, .int .i64, .int .i64, .int .u64, .int .i64]]⟩
structure P38_0 where
  x2 : Int
  x8 : Int
  x9 : Int
  x10 : Int
  x11 : Int
  N0 : Nat
  F0_0 : Nat → Int
  F0_1 : Nat → Int
  F0_2 : Nat → Int
  F0_3 : Nat → Int
  F0_4 : Nat → Int
  F0_5 : Nat → Int
  F0_6 : Nat → Int
  F0_7 : Nat → Int
  F0_8 : Nat → Int
  xh1_0 : Int
  nh1_1 : Nat
  xh2_0 : Int
  xh2_1 : Int
  xh2_2 : Int
  xh2_3 : Int
  xh2_4 : Int
  xh2_5 : Int
  xh2_6 : Int
structure S38_0 where
  x3 : Int
  x13 : Int
  xh3_0 : Int
  xh3_1 : Int
  xh3_2 : Int
  xh3_3 : Int
  xh3_4 : Int
  xh3_5 : Int
  xh3_6 : Int
noncomputable instance : Inhabited S38_0 := ⟨⟨0, 0, 0, 0, 0, 0, 0, 0, 0⟩⟩
def I38_0 (p : P38_0) (s : S38_0) : St th.R := ⟨[none, none, some (.int .u64 p.x2), some (.int .i64 s.x3), some (.ptr 1 0), none, none, none, some (.int .u64 p.x8), some (.int .i64 p.x9), some (.int .i64 p.x10), some (.int .i64 p.x11), some (.ptr 3 0), some (.int .i64 s.x13), none, none, none, none, none, none, none, none, none, none, none, none, none, none, none, none, none, none, none, none, none, none, none, none, none, none, none, none, none, none, none, none, none, none, none, none, none, none, none, none, none, none, none, none, none, none, none, none, none, none, none, none, none, none, none, none, none, none, none, none, none, none, none, none, none, none, none, none, none, none, none, none], [.row 100 9 p.N0 (fun j => [.int .u64 (p.F0_0 j), .int .i64 (p.F0_1 j), .int .u64 (p.F0_2 j), .int .i64 (p.F0_3 j), .int .i64 (p.F0_4 j), .int .i64 (p.F0_5 j), .int .i64 (p.F0_6 j), .int .u64 (p.F0_7 j), .int .i64 (p.F0_8 j)]), .cells 55 [.int .u64 p.xh1_0, .slc 0 9 0 p.nh1_1], .cells 44 [.int .i64 p.xh2_0, .int .u64 p.xh2_1, .int .i64 p.xh2_2, .int .i64 p.xh2_3, .int .i64 p.xh2_4, .int .i64 p.xh2_5, .int .u64 p.xh2_6], .cells 44 [.int .i64 s.xh3_0, .int .u64 s.xh3_1, .int .i64 s.xh3_2, .int .i64 s.xh3_3, .int .i64 s.xh3_4, .int .i64 s.xh3_5, .int .u64 s.xh3_6]], [], []⟩
def d38_0 : Lp := ⟨⟨86, [(2, .int .u64), (3, .int .i64), (4, .ptr 1 0), (8, .int .u64), (9, .int .i64), (10, .int .i64), (11, .int .i64), (12, .ptr 3 0), (13, .int .i64)], [.rowc 100 [.int .u64, .int .i64, .int .u64, .int .i64, .int .i64, .int .i64, .int .i64, .int .u64, .int .i64], .cells 55 [.int .u64, .slc0 0 9], .cells 44 [.int .i64, .int .u64, .int .i64, .int .i64, .int .i64, .int .i64, .int .u64], .cells 44 [.int .i64, .int .u64, .int .i64, .int .i64, .int .i64, .int .i64, .int .u64]]⟩, [], 4, [3], [8, 9, 10, 11], []⟩
def toV38_0 (p : P38_0) (s : S38_0) : List (Vl th.R) := [.i p.x2, .i s.x3, .i p.x8, .i p.x9, .i p.x10, .i p.x11, .i s.x13, .n p.N0, .c p.F0_0, .c p.F0_1, .c p.F0_2, .c p.F0_3, .c p.F0_4, .c p.F0_5, .c p.F0_6, .c p.F0_7, .c p.F0_8, .i p.xh1_0, .n p.nh1_1, .i p.xh2_0, .i p.xh2_1, .i p.xh2_2, .i p.xh2_3, .i p.xh2_4, .i p.xh2_5, .i p.xh2_6, .i s.xh3_0, .i s.xh3_1, .i s.xh3_2, .i s.xh3_3, .i s.xh3_4, .i s.xh3_5, .i s.xh3_6]
def ofV38_0 : List (Vl th.R) → Option (P38_0 × S38_0)
  | .i x2 :: .i x3 :: .i x8 :: .i x9 :: .i x10 :: .i x11 :: .i x13 :: .n N0 :: .c F0_0 :: .c F0_1 :: .c F0_2 :: .c F0_3 :: .c F0_4 :: .c F0_5 :: .c F0_6 :: .c F0_7 :: .c F0_8 :: .i xh1_0 :: .n nh1_1 :: .i xh2_0 :: .i xh2_1 :: .i xh2_2 :: .i xh2_3 :: .i xh2_4 :: .i xh2_5 :: .i xh2_6 :: .i xh3_0 :: .i xh3_1 :: .i xh3_2 :: .i xh3_3 :: .i xh3_4 :: .i xh3_5 :: .i xh3_6 :: [] => some (⟨x2, x8, x9, x10, x11, N0, F0_0, F0_1, F0_2, F0_3, F0_4, F0_5, F0_6, F0_7, F0_8, xh1_0, nh1_1, xh2_0, xh2_1, xh2_2, xh2_3, xh2_4, xh2_5, xh2_6⟩, ⟨x3, x13, xh3_0, xh3_1, xh3_2, xh3_3, xh3_4, xh3_5, xh3_6⟩)
  | _ => none
noncomputable def e38_0_18 (p : P38_0) (s : S38_0) : (Int) := IntKind.i64.wrap (s.xh3_4 + s.xh3_2)
noncomputable def e38_0_19 (p : P38_0) (s : S38_0) : (Bool) := decide (e38_0_18 p s > s.x3)
noncomputable def e38_0_20 (p : P38_0) (s : S38_0) : (Int) := IntKind.i64.wrap (s.x3 - s.xh3_4)
noncomputable def e38_0_21 (p : P38_0) (s : S38_0) : (Int) := IntKind.u64.wrap (s.xh3_1 + IntKind.u64.wrap ((32 : Int) * takeI p.x2 (e38_0_20 p s) s.xh3_2))
noncomputable def e38_0_22 (p : P38_0) (s : S38_0) : (Int) := IntKind.i64.wrap (e38_0_20 p s - s.xh3_2)
noncomputable def e38_0_23 (p : P38_0) (s : S38_0) : (Sl) := cpN p.xh1_0 (nds (ndf p.F0_0 p.F0_1 p.F0_2 p.F0_3 p.F0_4 p.F0_5 p.F0_6 p.F0_7 p.F0_8) p.nh1_1) (e38_0_21 p s)
noncomputable def e38_0_24 (p : P38_0) (s : S38_0) : (Int) := (e38_0_23 p s).k
noncomputable def e38_0_0 (p : P38_0) (s : S38_0) : (Prop) := cnd (!e38_0_19 p s) true false = true → (0 : Int) ≤ s.xh3_4 ∧ s.xh3_4 ≤ s.x3 ∧ s.x3 ≤ (64 : Int)
noncomputable def e38_0_1 (p : P38_0) (s : S38_0) : (Bool) := cnd (e38_0_19 p s) true (takeI p.x2 s.x3 s.xh3_4 != s.xh3_6)
noncomputable def e38_0_2 (p : P38_0) (s : S38_0) : (Prop) := ∀ (i : Nat), scpL (0:Nat) ((fun (j : Nat) => [SV.int IntKind.u64 (p.F0_0 j), SV.int IntKind.i64 (p.F0_1 j), SV.int IntKind.u64 (p.F0_2 j), SV.int IntKind.i64 (p.F0_3 j), SV.int IntKind.i64 (p.F0_4 j), SV.int IntKind.i64 (p.F0_5 j), SV.int IntKind.i64 (p.F0_6 j), SV.int IntKind.u64 (p.F0_7 j), SV.int IntKind.i64 (p.F0_8 j)]) i) = true
noncomputable def e38_0_3 (p : P38_0) (s : S38_0) : (Int) := IntKind.i64.wrap (s.x13 + (1 : Int))
noncomputable def e38_0_4 (p : P38_0) (s : S38_0) : (Prop) := true = true → (0 : Int) ≤ s.xh3_2 ∧ s.xh3_2 ≤ e38_0_20 p s ∧ e38_0_20 p s ≤ (64 : Int)
noncomputable def e38_0_5 (p : P38_0) (s : S38_0) : (Prop) := ∀ (i : Nat), i < p.N0 → (fun (j : Nat) => [SV.int IntKind.u64 (p.F0_0 j), SV.int IntKind.i64 (p.F0_1 j), SV.int IntKind.u64 (p.F0_2 j), SV.int IntKind.i64 (p.F0_3 j), SV.int IntKind.i64 (p.F0_4 j), SV.int IntKind.i64 (p.F0_5 j), SV.int IntKind.i64 (p.F0_6 j), SV.int IntKind.u64 (p.F0_7 j), SV.int IntKind.i64 (p.F0_8 j)]) i = elC (fun (j : Nat) => [SV.int IntKind.u64 (p.F0_0 j), SV.int IntKind.i64 (p.F0_1 j), SV.int IntKind.u64 (p.F0_2 j), SV.int IntKind.i64 (p.F0_3 j), SV.int IntKind.i64 (p.F0_4 j), SV.int IntKind.i64 (p.F0_5 j), SV.int IntKind.i64 (p.F0_6 j), SV.int IntKind.u64 (p.F0_7 j), SV.int IntKind.i64 (p.F0_8 j)]) (0:Nat) [Ck.int IntKind.u64, Ck.int IntKind.i64, Ck.int IntKind.u64, Ck.int IntKind.i64, Ck.int IntKind.i64, Ck.int IntKind.i64, Ck.int IntKind.i64, Ck.int IntKind.u64, Ck.int IntKind.i64] i
noncomputable def e38_0_6 (p : P38_0) (s : S38_0) : (Prop) := pre68 (V68.mk p.xh1_0 p.nh1_1 (e38_0_21 p s) p.N0 p.F0_0 p.F0_1 p.F0_2 p.F0_3 p.F0_4 p.F0_5 p.F0_6 p.F0_7 p.F0_8)
noncomputable def e38_0_7 (p : P38_0) (s : S38_0) : (Bool) := cnd (e38_0_22 p s == (0 : Int)) true (e38_0_24 p s != (2 : Int))
noncomputable def e38_0_8 (p : P38_0) (s : S38_0) : (Int) := e38_0_21 p s
noncomputable def e38_0_9 (p : P38_0) (s : S38_0) : (Int) := e38_0_22 p s
noncomputable def e38_0_10 (p : P38_0) (s : S38_0) : (Prop) := (∀ (i : Nat), scpL (0:Nat) ((fun (j : Nat) => [SV.int IntKind.u64 (p.F0_0 j), SV.int IntKind.i64 (p.F0_1 j), SV.int IntKind.u64 (p.F0_2 j), SV.int IntKind.i64 (p.F0_3 j), SV.int IntKind.i64 (p.F0_4 j), SV.int IntKind.i64 (p.F0_5 j), SV.int IntKind.i64 (p.F0_6 j), SV.int IntKind.u64 (p.F0_7 j), SV.int IntKind.i64 (p.F0_8 j)]) i) = true) ∧ ∀ (i : Nat), i < p.N0 → (fun (j : Nat) => [SV.int IntKind.u64 (p.F0_0 j), SV.int IntKind.i64 (p.F0_1 j), SV.int IntKind.u64 (p.F0_2 j), SV.int IntKind.i64 (p.F0_3 j), SV.int IntKind.i64 (p.F0_4 j), SV.int IntKind.i64 (p.F0_5 j), SV.int IntKind.i64 (p.F0_6 j), SV.int IntKind.u64 (p.F0_7 j), SV.int IntKind.i64 (p.F0_8 j)]) i = elC (fun (j : Nat) => [SV.int IntKind.u64 (p.F0_0 j), SV.int IntKind.i64 (p.F0_1 j), SV.int IntKind.u64 (p.F0_2 j), SV.int IntKind.i64 (p.F0_3 j), SV.int IntKind.i64 (p.F0_4 j), SV.int IntKind.i64 (p.F0_5 j), SV.int IntKind.i64 (p.F0_6 j), SV.int IntKind.u64 (p.F0_7 j), SV.int IntKind.i64 (p.F0_8 j)]) (0:Nat) [Ck.int IntKind.u64, Ck.int IntKind.i64, Ck.int IntKind.u64, Ck.int IntKind.i64, Ck.int IntKind.i64, Ck.int IntKind.i64, Ck.int IntKind.i64, Ck.int IntKind.u64, Ck.int IntKind.i64] i
noncomputable def e38_0_11 (p : P38_0) (s : S38_0) : (Int) := e38_0_24 p s
noncomputable def e38_0_12 (p : P38_0) (s : S38_0) : (Int) := (e38_0_23 p s).a
noncomputable def e38_0_13 (p : P38_0) (s : S38_0) : (Int) := (e38_0_23 p s).b
noncomputable def e38_0_14 (p : P38_0) (s : S38_0) : (Int) := (e38_0_23 p s).r
noncomputable def e38_0_15 (p : P38_0) (s : S38_0) : (Int) := (e38_0_23 p s).g
noncomputable def e38_0_16 (p : P38_0) (s : S38_0) : (Int) := (e38_0_23 p s).s
noncomputable def e38_0_17 (p : P38_0) (s : S38_0) : (Int) := (e38_0_23 p s).m
theorem n_e38_0_2 (p : P38_0) (s : S38_0) : e38_0_2 p s := by
  unfold e38_0_2
  first
    | (intros; rfl)
    | (intro i; rfl)
    | (intro i _; rfl)
    | (intro _ i; rfl)
    | (intro _ i _; rfl)
    | (refine ⟨?_, ?_⟩ <;> intro i <;> rfl)
    | (refine ⟨?_, ?_, ?_⟩ <;> intro i <;> rfl)
    | (refine ⟨?_, ?_⟩ <;> intro i _ <;> rfl)
    | (repeat' apply And.intro) <;> first | (intro i; rfl) | (intro i _; rfl) | (intro i h; exact absurd h (Nat.not_lt_zero i)) | (intro i; exact scpL_rowSet (by rfl) (by rfl)) | (intro i; exact scpL_rowEl (by kernel_rfl) _)
    | (intros; (repeat' apply And.intro) <;> intros <;> first | rfl | (exact absurd (by assumption) (Nat.not_lt_zero _)))
    | omega
    | decide
theorem n_e38_0_5 (p : P38_0) (s : S38_0) : e38_0_5 p s := by
  unfold e38_0_5
  first
    | (intros; rfl)
    | (intro i; rfl)
    | (intro i _; rfl)
    | (intro _ i; rfl)
    | (intro _ i _; rfl)
    | (refine ⟨?_, ?_⟩ <;> intro i <;> rfl)
    | (refine ⟨?_, ?_, ?_⟩ <;> intro i <;> rfl)
    | (refine ⟨?_, ?_⟩ <;> intro i _ <;> rfl)
    | (repeat' apply And.intro) <;> first | (intro i; rfl) | (intro i _; rfl) | (intro i h; exact absurd h (Nat.not_lt_zero i)) | (intro i; exact scpL_rowSet (by rfl) (by rfl)) | (intro i; exact scpL_rowEl (by kernel_rfl) _)
    | (intros; (repeat' apply And.intro) <;> intros <;> first | rfl | (exact absurd (by assumption) (Nat.not_lt_zero _)))
    | omega
    | decide
theorem n_e38_0_10 (p : P38_0) (s : S38_0) : e38_0_10 p s := by
  unfold e38_0_10
  first
    | (intros; rfl)
    | (intro i; rfl)
    | (intro i _; rfl)
    | (intro _ i; rfl)
    | (intro _ i _; rfl)
    | (refine ⟨?_, ?_⟩ <;> intro i <;> rfl)
    | (refine ⟨?_, ?_, ?_⟩ <;> intro i <;> rfl)
    | (refine ⟨?_, ?_⟩ <;> intro i _ <;> rfl)
    | (repeat' apply And.intro) <;> first | (intro i; rfl) | (intro i _; rfl) | (intro i h; exact absurd h (Nat.not_lt_zero i)) | (intro i; exact scpL_rowSet (by rfl) (by rfl)) | (intro i; exact scpL_rowEl (by kernel_rfl) _)
    | (intros; (repeat' apply And.intro) <;> intros <;> first | rfl | (exact absurd (by assumption) (Nat.not_lt_zero _)))
    | omega
    | decide
noncomputable def rf38_0 (p : P38_0) (s : S38_0) : Tr (Rs th.R S38_0) := (Tr.need (e38_0_0 p s) (Tr.ite (e38_0_1 p s) (Tr.need (e38_0_2 p s) (Tr.leaf (Rs.out (Ex.ret) [none, none, none, none, none, none, none, none, (some (SV.int .u64 (0 : Int))), (some (SV.int .i64 (0 : Int))), (some (SV.int .i64 (23 : Int))), some (SV.int .i64 (e38_0_3 p s)), none, none, none, none, none, none, none, none, none, none, none, none, none, none, none, none, none, none, none, none, none, none, none, none, none, none, none, none, none, none, none, none, none, none, none, none, none, none, none, none, none, none, none, none, none, none, none, none, none, none, none, none, none, none, none, none, none, none, none, none, none, none, none, none, none, none, none, none, none, none, none, none, none, none] [(HO.row (100 : Nat) (9 : Nat) (p.N0) (fun j => [SV.int .u64 (p.F0_0 j), SV.int .i64 (p.F0_1 j), SV.int .u64 (p.F0_2 j), SV.int .i64 (p.F0_3 j), SV.int .i64 (p.F0_4 j), SV.int .i64 (p.F0_5 j), SV.int .i64 (p.F0_6 j), SV.int .u64 (p.F0_7 j), SV.int .i64 (p.F0_8 j)])), (HO.cells (55 : Nat) [SV.int .u64 (p.xh1_0), (SV.slc (0:Nat) (9 : Nat) (0:Nat) (p.nh1_1))]), (HO.cells (44 : Nat) [SV.int .i64 (p.xh2_0), SV.int .u64 (p.xh2_1), SV.int .i64 (p.xh2_2), SV.int .i64 (p.xh2_3), SV.int .i64 (p.xh2_4), SV.int .i64 (p.xh2_5), SV.int .u64 (p.xh2_6)]), (HO.cells (44 : Nat) [SV.int .i64 (s.xh3_0), SV.int .u64 (s.xh3_1), SV.int .i64 (s.xh3_2), SV.int .i64 (s.xh3_3), SV.int .i64 (s.xh3_4), SV.int .i64 (s.xh3_5), SV.int .u64 (s.xh3_6)])]))) (Tr.need (e38_0_4 p s) (Tr.need (e38_0_2 p s) (Tr.need (e38_0_5 p s) (Tr.need (e38_0_6 p s) (Tr.need (e38_0_2 p s) (Tr.ite (e38_0_7 p s) (Tr.need (e38_0_2 p s) (Tr.leaf (Rs.out (Ex.ret) [none, none, none, none, none, none, none, none, some (SV.int .u64 (e38_0_8 p s)), some (SV.int .i64 (e38_0_9 p s)), (some (SV.int .i64 (0 : Int))), some (SV.int .i64 (e38_0_3 p s)), none, none, none, none, none, none, none, none, none, none, none, none, none, none, none, none, none, none, none, none, none, none, none, none, none, none, none, none, none, none, none, none, none, none, none, none, none, none, none, none, none, none, none, none, none, none, none, none, none, none, none, none, none, none, none, none, none, none, none, none, none, none, none, none, none, none, none, none, none, none, none, none, none, none] [(HO.row (100 : Nat) (9 : Nat) (p.N0) (fun j => [SV.int .u64 (p.F0_0 j), SV.int .i64 (p.F0_1 j), SV.int .u64 (p.F0_2 j), SV.int .i64 (p.F0_3 j), SV.int .i64 (p.F0_4 j), SV.int .i64 (p.F0_5 j), SV.int .i64 (p.F0_6 j), SV.int .u64 (p.F0_7 j), SV.int .i64 (p.F0_8 j)])), (HO.cells (55 : Nat) [SV.int .u64 (p.xh1_0), (SV.slc (0:Nat) (9 : Nat) (0:Nat) (p.nh1_1))]), (HO.cells (44 : Nat) [SV.int .i64 (p.xh2_0), SV.int .u64 (p.xh2_1), SV.int .i64 (p.xh2_2), SV.int .i64 (p.xh2_3), SV.int .i64 (p.xh2_4), SV.int .i64 (p.xh2_5), SV.int .u64 (p.xh2_6)]), (HO.cells (44 : Nat) [SV.int .i64 (s.xh3_0), SV.int .u64 (s.xh3_1), SV.int .i64 (s.xh3_2), SV.int .i64 (s.xh3_3), SV.int .i64 (s.xh3_4), SV.int .i64 (s.xh3_5), SV.int .u64 (s.xh3_6)])]))) (Tr.need (e38_0_10 p s) (Tr.leaf (Rs.on (S38_0.mk ((e38_0_9 p s)) ((e38_0_3 p s)) ((e38_0_11 p s)) ((e38_0_12 p s)) ((e38_0_13 p s)) ((e38_0_14 p s)) ((e38_0_15 p s)) ((e38_0_16 p s)) ((e38_0_17 p s))))))))))))))
noncomputable def r38_0 (p : P38_0) (s : S38_0) : Tr (Rs th.R S38_0) := (Tr.need (e38_0_0 p s) (Tr.ite (e38_0_1 p s) (Tr.leaf (Rs.out (Ex.ret) [none, none, none, none, none, none, none, none, (some (SV.int .u64 (0 : Int))), (some (SV.int .i64 (0 : Int))), (some (SV.int .i64 (23 : Int))), some (SV.int .i64 (e38_0_3 p s)), none, none, none, none, none, none, none, none, none, none, none, none, none, none, none, none, none, none, none, none, none, none, none, none, none, none, none, none, none, none, none, none, none, none, none, none, none, none, none, none, none, none, none, none, none, none, none, none, none, none, none, none, none, none, none, none, none, none, none, none, none, none, none, none, none, none, none, none, none, none, none, none, none, none] [(HO.row (100 : Nat) (9 : Nat) (p.N0) (fun j => [SV.int .u64 (p.F0_0 j), SV.int .i64 (p.F0_1 j), SV.int .u64 (p.F0_2 j), SV.int .i64 (p.F0_3 j), SV.int .i64 (p.F0_4 j), SV.int .i64 (p.F0_5 j), SV.int .i64 (p.F0_6 j), SV.int .u64 (p.F0_7 j), SV.int .i64 (p.F0_8 j)])), (HO.cells (55 : Nat) [SV.int .u64 (p.xh1_0), (SV.slc (0:Nat) (9 : Nat) (0:Nat) (p.nh1_1))]), (HO.cells (44 : Nat) [SV.int .i64 (p.xh2_0), SV.int .u64 (p.xh2_1), SV.int .i64 (p.xh2_2), SV.int .i64 (p.xh2_3), SV.int .i64 (p.xh2_4), SV.int .i64 (p.xh2_5), SV.int .u64 (p.xh2_6)]), (HO.cells (44 : Nat) [SV.int .i64 (s.xh3_0), SV.int .u64 (s.xh3_1), SV.int .i64 (s.xh3_2), SV.int .i64 (s.xh3_3), SV.int .i64 (s.xh3_4), SV.int .i64 (s.xh3_5), SV.int .u64 (s.xh3_6)])])) (Tr.need (e38_0_4 p s) (Tr.need (e38_0_6 p s) (Tr.ite (e38_0_7 p s) (Tr.leaf (Rs.out (Ex.ret) [none, none, none, none, none, none, none, none, some (SV.int .u64 (e38_0_8 p s)), some (SV.int .i64 (e38_0_9 p s)), (some (SV.int .i64 (0 : Int))), some (SV.int .i64 (e38_0_3 p s)), none, none, none, none, none, none, none, none, none, none, none, none, none, none, none, none, none, none, none, none, none, none, none, none, none, none, none, none, none, none, none, none, none, none, none, none, none, none, none, none, none, none, none, none, none, none, none, none, none, none, none, none, none, none, none, none, none, none, none, none, none, none, none, none, none, none, none, none, none, none, none, none, none, none] [(HO.row (100 : Nat) (9 : Nat) (p.N0) (fun j => [SV.int .u64 (p.F0_0 j), SV.int .i64 (p.F0_1 j), SV.int .u64 (p.F0_2 j), SV.int .i64 (p.F0_3 j), SV.int .i64 (p.F0_4 j), SV.int .i64 (p.F0_5 j), SV.int .i64 (p.F0_6 j), SV.int .u64 (p.F0_7 j), SV.int .i64 (p.F0_8 j)])), (HO.cells (55 : Nat) [SV.int .u64 (p.xh1_0), (SV.slc (0:Nat) (9 : Nat) (0:Nat) (p.nh1_1))]), (HO.cells (44 : Nat) [SV.int .i64 (p.xh2_0), SV.int .u64 (p.xh2_1), SV.int .i64 (p.xh2_2), SV.int .i64 (p.xh2_3), SV.int .i64 (p.xh2_4), SV.int .i64 (p.xh2_5), SV.int .u64 (p.xh2_6)]), (HO.cells (44 : Nat) [SV.int .i64 (s.xh3_0), SV.int .u64 (s.xh3_1), SV.int .i64 (s.xh3_2), SV.int .i64 (s.xh3_3), SV.int .i64 (s.xh3_4), SV.int .i64 (s.xh3_5), SV.int .u64 (s.xh3_6)])])) (Tr.leaf (Rs.on (S38_0.mk ((e38_0_9 p s)) ((e38_0_3 p s)) ((e38_0_11 p s)) ((e38_0_12 p s)) ((e38_0_13 p s)) ((e38_0_14 p s)) ((e38_0_15 p s)) ((e38_0_16 p s)) ((e38_0_17 p s))))))))))
noncomputable def E38_0 : St th.R → Out th := evCode th Try.prog (auto th Try.prog nice68n [] 20) (autoH [] [] [] [] : Hints th) (lpAt Try.prog 38 0)
theorem B38_0 : CodeSound th Try.prog (lpAt Try.prog 38 0) E38_0 := evCode_sound (T := th) (P := Try.prog) (tbl := (auto th Try.prog nice68n [] 20)) (auto_sound (nice := nice68n) (us := []) nok68n 20) (autoH [] [] [] [] : Hints th) _ (LoopsOk_mem (fun _ => rfl) _ fun b hb L hL => by cases hL)
noncomputable def L38_0 : St th.R → Out th := loopL d38_0 ofV38_0 r38_0
theorem h1_38_0 (p : P38_0) (s : S38_0) : bld d38_0.tm (toV38_0 p s) = some (I38_0 p s) := by kernel_rfl
theorem h2_38_0 (l : List (Vl th.R)) (p : P38_0) (s : S38_0) (h : ofV38_0 l = some (p, s)) : l = toV38_0 p s := by
  unfold ofV38_0 at h
  split at h
  · cases h; rfl
  · cases h
theorem h3_38_0 (p : P38_0) (s : S38_0) : cvE d38_0 (E38_0 (I38_0 p s)) = some ((rf38_0 p s).map (Rs.map (toV38_0 p))) := by kernel_rfl
theorem h3g_38_0 (p : P38_0) (s : S38_0) : (rf38_0 p s).get = (r38_0 p s).get := by kernel_rfl
theorem h4_38_0 (p : P38_0) (s s1 : S38_0) : outH d38_0.dirt d38_0.n0 (r38_0 p s) = repH (maskH d38_0.dirt 0 d38_0.n0 (I38_0 p s1).heap) (r38_0 p s) := by kernel_rfl
theorem ls38_0 : CodeSound th Try.prog (.loop (lpAt Try.prog 38 0)) L38_0 := loopL_sound B38_0 d38_0 I38_0 toV38_0 (by kernel_rfl) h1_38_0 h2_38_0
  (fun p s => ⟨(rf38_0 p s).map (Rs.map (toV38_0 p)), h3_38_0 p s, fun h => by
    rw [Tr.map_ok]
    unfold r38_0 at h; unfold rf38_0
    simp only [Tr.ok, n_e38_0_2, n_e38_0_5, n_e38_0_10, true_and, and_true, forall_const, implies_true] at h ⊢
    try exact h, by rw [Tr.map_get, h3g_38_0 p s]⟩) h4_38_0
theorem ok38 : LoopsOk th Try.prog (autoH [(7, L38_0)] [] [] [] : Hints th) (bodyOf Try.prog 38) := autoH_ok (bs := [lpAt Try.prog 38 0]) (by kernel_rfl) fun b hb L hL => by
  simp only [List.mem_cons, List.not_mem_nil, or_false] at hb
  rcases hb with rfl
  · have e : lookL [(7, L38_0)] (firstReg (lpAt Try.prog 38 0)) = some L38_0 := by kernel_rfl
    rw [e] at hL; cases hL
    exact ls38_0
noncomputable def f38_6 (v : V38) : (Bool) := cnd (decide (v.l < (1 : Int))) true (decide (v.l > (64 : Int)))
noncomputable def f38_7 (v : V38) : (Bool) := cnd (v.kr != (2 : Int)) true !f50_2 v.kr v.ar v.br v.rr v.gr v.sr v.mr
noncomputable def f38_8 (v : V38) : (P38_0) := P38_0.mk v.w (0 : Int) (0 : Int) (0 : Int) (0 : Int) v.Q v.t v.k v.a v.b v.r v.g v.s v.m v.d v.z v.L v.kr v.ar v.br v.rr v.gr v.sr v.mr
noncomputable def f38_9 (v : V38) : (S38_0) := S38_0.mk v.l (0 : Int) v.kr v.ar v.br v.rr v.gr v.sr v.mr
noncomputable def f38_10 (v : V38) : (S38_0) := lastS (r38_0 (f38_8 v)) (f38_9 v)
noncomputable def f38_11 (v : V38) : (Int) := e38_0_3 (f38_8 v) (f38_10 v)
noncomputable def f38_0 (v : V38) : (Prop) := f38_6 v = false → f38_7 v = false → ∀ (i : Nat), i < v.Q → (fun (j : Nat) => [SV.int IntKind.u64 (v.t j), SV.int IntKind.i64 (v.k j), SV.int IntKind.u64 (v.a j), SV.int IntKind.i64 (v.b j), SV.int IntKind.i64 (v.r j), SV.int IntKind.i64 (v.g j), SV.int IntKind.i64 (v.s j), SV.int IntKind.u64 (v.m j), SV.int IntKind.i64 (v.d j)]) i = elC (fun (j : Nat) => [SV.int IntKind.u64 (v.t j), SV.int IntKind.i64 (v.k j), SV.int IntKind.u64 (v.a j), SV.int IntKind.i64 (v.b j), SV.int IntKind.i64 (v.r j), SV.int IntKind.i64 (v.g j), SV.int IntKind.i64 (v.s j), SV.int IntKind.u64 (v.m j), SV.int IntKind.i64 (v.d j)]) (0:Nat) [Ck.int IntKind.u64, Ck.int IntKind.i64, Ck.int IntKind.u64, Ck.int IntKind.i64, Ck.int IntKind.i64, Ck.int IntKind.i64, Ck.int IntKind.i64, Ck.int IntKind.u64, Ck.int IntKind.i64] i
noncomputable def f38_1 (v : V38) : (Prop) := f38_6 v = false → f38_7 v = false → LT (r38_0 (f38_8 v)) (f38_9 v)
noncomputable def f38_2 (v : V38) : (Int) := cnd (f38_6 v) (0 : Int) (cnd (f38_7 v) (0 : Int) (cnd (e38_0_1 (f38_8 v) (f38_10 v)) (0 : Int) (e38_0_8 (f38_8 v) (f38_10 v))))
noncomputable def f38_3 (v : V38) : (Int) := cnd (f38_6 v) (0 : Int) (cnd (f38_7 v) (0 : Int) (cnd (e38_0_1 (f38_8 v) (f38_10 v)) (0 : Int) (e38_0_9 (f38_8 v) (f38_10 v))))
noncomputable def f38_4 (v : V38) : (Int) := cnd (f38_6 v) (12 : Int) (cnd (f38_7 v) (20 : Int) (cnd (e38_0_1 (f38_8 v) (f38_10 v)) (23 : Int) (0 : Int)))
noncomputable def f38_5 (v : V38) : (Int) := cnd (f38_6 v) (0 : Int) (cnd (f38_7 v) (0 : Int) (cnd (e38_0_1 (f38_8 v) (f38_10 v)) (f38_11 v) (f38_11 v)))
theorem n_f38_0 (v : V38) : f38_0 v := by
  unfold f38_0
  first
    | (intros; rfl)
    | (intro i; rfl)
    | (intro i _; rfl)
    | (intro _ i; rfl)
    | (intro _ i _; rfl)
    | (refine ⟨?_, ?_⟩ <;> intro i <;> rfl)
    | (refine ⟨?_, ?_, ?_⟩ <;> intro i <;> rfl)
    | (refine ⟨?_, ?_⟩ <;> intro i _ <;> rfl)
    | (repeat' apply And.intro) <;> first | (intro i; rfl) | (intro i _; rfl) | (intro i h; exact absurd h (Nat.not_lt_zero i)) | (intro i; exact scpL_rowSet (by rfl) (by rfl)) | (intro i; exact scpL_rowEl (by kernel_rfl) _)
    | (intros; (repeat' apply And.intro) <;> intros <;> first | rfl | (exact absurd (by assumption) (Nat.not_lt_zero _)))
    | omega
    | decide
noncomputable def ff38 (v : V38) : Tr (Fin th.R) := (Tr.need (f38_0 v) (Tr.need (f38_1 v) (Tr.leaf (SV.tup [SV.int .u64 (f38_2 v), SV.int .i64 (f38_3 v), SV.int .i64 (f38_4 v), SV.int .i64 (f38_5 v)], [(HO.row (100 : Nat) (9 : Nat) (v.Q) (fun j => [SV.int .u64 (v.t j), SV.int .i64 (v.k j), SV.int .u64 (v.a j), SV.int .i64 (v.b j), SV.int .i64 (v.r j), SV.int .i64 (v.g j), SV.int .i64 (v.s j), SV.int .u64 (v.m j), SV.int .i64 (v.d j)]))], List.nil))))
noncomputable def f38 (v : V38) : Tr (Fin th.R) := (Tr.need (f38_1 v) (Tr.leaf (SV.tup [SV.int .u64 (f38_2 v), SV.int .i64 (f38_3 v), SV.int .i64 (f38_4 v), SV.int .i64 (f38_5 v)], [(HO.row (100 : Nat) (9 : Nat) (v.Q) (fun j => [SV.int .u64 (v.t j), SV.int .i64 (v.k j), SV.int .u64 (v.a j), SV.int .i64 (v.b j), SV.int .i64 (v.r j), SV.int .i64 (v.g j), SV.int .i64 (v.s j), SV.int .u64 (v.m j), SV.int .i64 (v.d j)]))], [])))
noncomputable def C38 : CF th.R := fnC d38 ofV38 (f38 )
theorem q38 (v : V38) : (evFn th Try.prog (auto th Try.prog nice68n [] 20) (autoH [(7, L38_0)] [] [] [] : Hints th) 38) (A38 v) (H38 v) = some (ff38 v) := by kernel_rfl
theorem qg38 (v : V38) : ((ff38 v).map (setD [])).get = (f38 v).get := by kernel_rfl
theorem qd38 (v : V38) : allD 1 [] (ff38 v) = true := by kernel_rfl
theorem s38 : Sound Try.prog th 38 (C38 ) := fnC_sound (evFn_sound' (T := th) (P := Try.prog) (tbl := (auto th Try.prog nice68n [] 20)) (auto_sound (nice := nice68n) (us := []) nok68n 20) (H := (autoH [(7, L38_0)] [] [] [] : Hints th)) (k := 38) (fnLoops ok38)) d38 A38 H38 toV38 (by kernel_rfl) (fun v => by kernel_rfl)
  (fun l v h => by
    unfold ofV38 at h
    split at h
    · cases h; rfl
    · cases h)
  [] (fun v => ⟨ff38 v, q38 v, fun h => by
    unfold f38 at h; unfold ff38
    simp only [Tr.ok, n_f38_0, true_and, and_true, forall_const, implies_true] at h ⊢
    try exact h, qg38 v, qd38 v⟩)
theorem qdd38 (v : V38) : (f38 v).get.2.2 = [] := by
  rw [← qg38, Tr.map_get]; rfl
end Go.Sx.M

namespace Go.Sx.M
open Go Go.Sx Go.Proofs Go.RowKit
set_option maxRecDepth 100000
def cf38 (p : P38_0) : Int → Sl := cpN p.xh1_0 (nds (ndf p.F0_0 p.F0_1 p.F0_2 p.F0_3 p.F0_4 p.F0_5 p.F0_6 p.F0_7 p.F0_8) p.nh1_1)
def cs38 (s : S38_0) : Sl := ⟨s.xh3_0, s.xh3_1, s.xh3_2, s.xh3_3, s.xh3_4, s.xh3_5, s.xh3_6, 0, 0, 0⟩
def V38i (p : P38_0) (W : Wr) (s : S38_0) : Prop := SlR (cs38 s) ∧ pOk (cs38 s) = true ∧ (0 ≤ s.x3 ∧ s.x3 ≤ 64) ∧ wkM (cf38 p) p.x2 (s.x3.toNat + 1) s.x3 s.x13 s.xh3_1 s.xh3_2 s.xh3_4 s.xh3_6 = W
def Q38 (p : P38_0) (W : Wr) (s : S38_0) : Prop := W.ok = (!e38_0_1 p s) ∧ (e38_0_1 p s = false → W.s = e38_0_8 p s ∧ W.l = e38_0_9 p s) ∧ W.c = e38_0_3 p s
theorem l38 {p : P38_0} {W : Wr} {s : S38_0} (hcf : cfOk (cf38 p)) (hw : U64 p.x2) (hN : p.N0 = p.nh1_1 ∧ p.nh1_1 ≤ 100000) (h : V38i p W s) : LT (r38_0 p) s ∧ Q38 p W (lastS (r38_0 p) s) := by
  refine LT.post (V38i p W) (Q38 p W) (fun s : S38_0 => s.x3.toNat) ?_ h
  rintro ⟨l, c, k, a, b, r, g, q, m⟩ ⟨h1, h2, ⟨h3, h4⟩, h5⟩
  obtain ⟨N, hN2⟩ : ∃ N : Nat, p.x2 = N := ⟨p.x2.toNat, by have := hw.1; omega⟩
  have hN3 : N < 18446744073709551616 := by have := hw.2; omega
  obtain ⟨k2, _, _, _, _, _, ⟨b0, b1⟩, ⟨g0, g1⟩⟩ := pOk_spec h1 h2
  have b0 : 1 ≤ b := b0
  have b1 : b ≤ 12 := b1
  have g0 : 0 ≤ g := g0
  have g1 : g ≤ 63 := g1
  have h3 : 0 ≤ l := h3
  have h4 : l ≤ 64 := h4
  simp only at h5
  have hp : pnOk l b g := ⟨⟨h3, h4⟩, ⟨b0, b1⟩, ⟨g0, g1⟩⟩
  have e18 : e38_0_18 p ⟨l, c, k, a, b, r, g, q, m⟩ = g + b := wi (by show -9223372036854775808 ≤ g + b; omega) (by show g + b < 9223372036854775808; omega)
  have e19 : e38_0_19 p ⟨l, c, k, a, b, r, g, q, m⟩ = pG l b g := rfl
  have e20 : e38_0_20 p ⟨l, c, k, a, b, r, g, q, m⟩ = IntKind.i64.wrap (l - g) := rfl
  have wlg : IntKind.i64.wrap (l - g) = l - g := wi (by omega) (by omega)
  have hG : pG l b g = false → g + b ≤ l := fun e => by
    rw [← e19] at e
    unfold e38_0_19 at e
    rw [e18] at e
    have := of_decide_eq_false e
    have : ¬ (g + b > l) := this
    omega
  have e1 : e38_0_1 p ⟨l, c, k, a, b, r, g, q, m⟩ = pF p.x2 l b g m := by
    unfold e38_0_1 pF
    rw [e19]
    cases hg : pG l b g with
    | true => rfl
    | false =>
      have := hG hg
      simp only [cnd_f]
      rw [hN2, wlg, take_eq hN3 g0 (by omega) h4 g1]
  have n0 : e38_0_0 p ⟨l, c, k, a, b, r, g, q, m⟩ := fun e => by
    rw [e19] at e
    cases hg : pG l b g with
    | true => rw [hg] at e; cases e
    | false =>
      have := hG hg
      exact ⟨g0, (by show g ≤ l; omega), h4⟩
  simp only [wkM] at h5
  cases hF : pF p.x2 l b g m with
  | true =>
    rw [hF] at e1 h5
    have h5 : (⟨pS p.x2 l a b g m, !true, pL p.x2 l b g m, IntKind.i64.wrap (c + 1)⟩ : Wr) = W := h5
    simp only [r38_0, e1, Tr.ok, Tr.get]
    refine ⟨⟨n0, fun _ => trivial, fun e => by cases e⟩, .inl ⟨⟨_, _, _, rfl⟩, ?_⟩⟩
    unfold Q38
    rw [e1, ← h5]
    exact ⟨rfl, (fun e => by cases e), rfl⟩
  | false =>
    rw [hF] at e1 h5
    have hg : pG l b g = false := by
      cases hh : pG l b g with
      | false => rfl
      | true => simp [pF, hh, cnd_eq] at hF
    have hgb := hG hg
    obtain ⟨q1, q2, q3⟩ := pL_less hp hF
    have hl1 : pL1 l b g = IntKind.i64.wrap (l - g) := by unfold pL1; rw [hg]; rfl
    have eL : e38_0_22 p ⟨l, c, k, a, b, r, g, q, m⟩ = pL p.x2 l b g m := by
      unfold pL
      rw [hF, hl1]
      rfl
    have eS : e38_0_21 p ⟨l, c, k, a, b, r, g, q, m⟩ = pS p.x2 l a b g m := by
      unfold pS
      rw [hF, hl1, wlg, wi (x := l - g - b) (by omega) (by omega)]
      show IntKind.u64.wrap (a + IntKind.u64.wrap (32 * takeI p.x2 (e38_0_20 p ⟨l, c, k, a, b, r, g, q, m⟩) b)) = _
      rw [e20, wlg, hN2, take_eq hN3 (by omega) (by omega) (by omega) (by omega), Int.mul_comm]
      rfl
    have e23 : e38_0_23 p ⟨l, c, k, a, b, r, g, q, m⟩ = cf38 p (pS p.x2 l a b g m) := by
      show cf38 p (e38_0_21 p ⟨l, c, k, a, b, r, g, q, m⟩) = _
      rw [eS]
    have n4 : e38_0_4 p ⟨l, c, k, a, b, r, g, q, m⟩ := fun _ => by
      rw [e20, wlg]
      exact ⟨(by show 0 ≤ b; omega), (by show b ≤ l - g; omega), by omega⟩
    have n6 : e38_0_6 p ⟨l, c, k, a, b, r, g, q, m⟩ := hN
    obtain ⟨c1, c2⟩ := hcf (pS p.x2 l a b g m)
    have hko : (e38_0_24 p ⟨l, c, k, a, b, r, g, q, m⟩ != 2) = !pOk (cf38 p (pS p.x2 l a b g m)) := by
      unfold e38_0_24
      rw [e23]
      cases ho : pOk (cf38 p (pS p.x2 l a b g m)) with
      | true =>
        have := (pOk_spec c1 ho).1
        rw [this]
        rfl
      | false =>
        have : (cf38 p (pS p.x2 l a b g m)).k ≠ 2 := fun e => by rw [c2 e] at ho; cases ho
        exact bne_iff_ne.2 this
    have e7 : e38_0_7 p ⟨l, c, k, a, b, r, g, q, m⟩ = cnd (pL p.x2 l b g m == 0) true (!pOk (cf38 p (pS p.x2 l a b g m))) := by
      unfold e38_0_7
      rw [hko, eL]
    have h5 : (match (pL p.x2 l b g m == 0) with
      | true => (⟨pS p.x2 l a b g m, true, pL p.x2 l b g m, IntKind.i64.wrap (c + 1)⟩ : Wr)
      | false => match !pOk (cf38 p (pS p.x2 l a b g m)) with
        | true => ⟨pS p.x2 l a b g m, true, pL p.x2 l b g m, IntKind.i64.wrap (c + 1)⟩
        | false => wkM (cf38 p) p.x2 l.toNat (pL p.x2 l b g m) (IntKind.i64.wrap (c + 1)) (pNa (cf38 p (pS p.x2 l a b g m))) (pNb (cf38 p (pS p.x2 l a b g m))) (pNg (cf38 p (pS p.x2 l a b g m))) (pNm (cf38 p (pS p.x2 l a b g m)))) = W := h5
    cases h7 : cnd (pL p.x2 l b g m == 0) true (!pOk (cf38 p (pS p.x2 l a b g m))) with
    | true =>
      have hWe : (⟨pS p.x2 l a b g m, true, pL p.x2 l b g m, IntKind.i64.wrap (c + 1)⟩ : Wr) = W := by
        rw [← h5]
        cases hz : (pL p.x2 l b g m == 0) with
        | true => rfl
        | false =>
          rw [hz] at h7
          have h7 : (!pOk (cf38 p (pS p.x2 l a b g m))) = true := h7
          rw [h7]
      rw [h7] at e7
      simp only [r38_0, e1, e7, Tr.ok, Tr.get]
      refine ⟨⟨n0, (fun e => by cases e), fun _ => ⟨n4, n6, fun _ => trivial, fun e => by cases e⟩⟩, .inl ⟨⟨_, _, _, rfl⟩, ?_⟩⟩
      unfold Q38
      rw [e1, ← hWe]
      exact ⟨rfl, fun _ => ⟨eS.symm, eL.symm⟩, rfl⟩
    | false =>
      have hz : (pL p.x2 l b g m == 0) = false := by
        cases hz : (pL p.x2 l b g m == 0) with
        | false => rfl
        | true => rw [hz] at h7; cases h7
      rw [hz] at h7 h5
      have h7 : (!pOk (cf38 p (pS p.x2 l a b g m))) = false := h7
      rw [h7] at h5
      have ho : pOk (cf38 p (pS p.x2 l a b g m)) = true := by simpa using h7
      rw [hz, h7] at e7
      have e7 : e38_0_7 p ⟨l, c, k, a, b, r, g, q, m⟩ = false := e7
      obtain ⟨k2', k20, k3, k4, k5, k6, kb, kg⟩ := pOk_spec c1 ho
      rw [k3, k4, k5, k6] at h5
      have h5 : wkM (cf38 p) p.x2 l.toNat (pL p.x2 l b g m) (IntKind.i64.wrap (c + 1)) (cf38 p (pS p.x2 l a b g m)).a (cf38 p (pS p.x2 l a b g m)).b (cf38 p (pS p.x2 l a b g m)).g (cf38 p (pS p.x2 l a b g m)).m = W := h5
      have hp' : pnOk (pL p.x2 l b g m) (cf38 p (pS p.x2 l a b g m)).b (cf38 p (pS p.x2 l a b g m)).g := ⟨⟨q2, by omega⟩, kb, kg⟩
      simp only [r38_0, e1, e7, Tr.ok, Tr.get]
      have hcs : cs38 ⟨e38_0_9 p ⟨l, c, k, a, b, r, g, q, m⟩, e38_0_3 p ⟨l, c, k, a, b, r, g, q, m⟩, e38_0_11 p ⟨l, c, k, a, b, r, g, q, m⟩, e38_0_12 p ⟨l, c, k, a, b, r, g, q, m⟩, e38_0_13 p ⟨l, c, k, a, b, r, g, q, m⟩, e38_0_14 p ⟨l, c, k, a, b, r, g, q, m⟩, e38_0_15 p ⟨l, c, k, a, b, r, g, q, m⟩, e38_0_16 p ⟨l, c, k, a, b, r, g, q, m⟩, e38_0_17 p ⟨l, c, k, a, b, r, g, q, m⟩⟩ = capS (cf38 p (pS p.x2 l a b g m)) := by
        show (⟨(e38_0_23 p _).k, (e38_0_23 p _).a, (e38_0_23 p _).b, (e38_0_23 p _).r, (e38_0_23 p _).g, (e38_0_23 p _).s, (e38_0_23 p _).m, 0, 0, 0⟩ : Sl) = _
        rw [e23]
        rfl
      refine ⟨⟨n0, (fun e => by cases e), fun _ => ⟨n4, n6, (fun e => by cases e), fun _ => trivial⟩⟩, .inr ⟨_, rfl, ⟨by rw [hcs]; exact capS_R c1, ?_, ?_, ?_⟩, ?_⟩⟩
      · rw [hcs]; exact ho
      · show 0 ≤ e38_0_22 p _ ∧ e38_0_22 p _ ≤ 64
        rw [eL]; exact ⟨q2, by omega⟩
      · show wkM (cf38 p) p.x2 ((e38_0_22 p _).toNat + 1) (e38_0_22 p _) (IntKind.i64.wrap (c + 1)) (e38_0_23 p _).a (e38_0_23 p _).b (e38_0_23 p _).g (e38_0_23 p _).m = W
        rw [eL, e23, ← h5]
        have hq : (pL p.x2 l b g m).toNat < l.toNat := by omega
        exact wkM_fuel (fun a => (hcf a).1) hp' (Nat.lt_succ_self _) hq
      · show (e38_0_22 p _).toNat < l.toNat
        rw [eL]; omega
def pre38 (v : V38) : Prop := (v.Q = v.L ∧ v.L ≤ 100000) ∧ SlR (Sl.mk v.kr v.ar v.br v.rr v.gr v.sr v.mr 0 0 0) ∧ U64 v.w ∧ cfOk (cpN v.z (nds (ndf v.t v.k v.a v.b v.r v.g v.s v.m v.d) v.L))
theorem n38 (v : V38) (h : pre38 v) : (f38 v).ok ∧ (f38 v).get.1 = .tup [.int .u64 (wrA (cpN v.z (nds (ndf v.t v.k v.a v.b v.r v.g v.s v.m v.d) v.L)) (Sl.mk v.kr v.ar v.br v.rr v.gr v.sr v.mr 0 0 0) v.w v.l), .int .i64 (wrB (cpN v.z (nds (ndf v.t v.k v.a v.b v.r v.g v.s v.m v.d) v.L)) (Sl.mk v.kr v.ar v.br v.rr v.gr v.sr v.mr 0 0 0) v.w v.l), .int .i64 (wrE (cpN v.z (nds (ndf v.t v.k v.a v.b v.r v.g v.s v.m v.d) v.L)) (Sl.mk v.kr v.ar v.br v.rr v.gr v.sr v.mr 0 0 0) v.w v.l), .int .i64 (wrS (cpN v.z (nds (ndf v.t v.k v.a v.b v.r v.g v.s v.m v.d) v.L)) (Sl.mk v.kr v.ar v.br v.rr v.gr v.sr v.mr 0 0 0) v.w v.l)] ∧ HOws (f38 v).get.2.1 [HO.row 100 9 v.Q (fun j => [.int .u64 (v.t j), .int .i64 (v.k j), .int .u64 (v.a j), .int .i64 (v.b j), .int .i64 (v.r j), .int .i64 (v.g j), .int .i64 (v.s j), .int .u64 (v.m j), .int .i64 (v.d j)])] := by
  obtain ⟨⟨hQ, hL⟩, hc, hw, hcf⟩ := h
  have e6 : f38_6 v = lbad v.l := rfl
  have e7 : f38_7 v = !pOk (Sl.mk v.kr v.ar v.br v.rr v.gr v.sr v.mr 0 0 0) := ok_eq hc
  have main : bgE (Sl.mk v.kr v.ar v.br v.rr v.gr v.sr v.mr 0 0 0) v.l = 0 → LT (r38_0 (f38_8 v)) (f38_9 v) ∧ Q38 (f38_8 v) (wrW (cpN v.z (nds (ndf v.t v.k v.a v.b v.r v.g v.s v.m v.d) v.L)) (Sl.mk v.kr v.ar v.br v.rr v.gr v.sr v.mr 0 0 0) v.w v.l) (lastS (r38_0 (f38_8 v)) (f38_9 v)) := by
    intro hb
    obtain ⟨k1, k2, k3, k4⟩ := bgE_ok hb
    obtain ⟨_, _, x1, x2, x3, x4, _, _⟩ := pOk_spec hc k2
    refine l38 (p := f38_8 v) (s := f38_9 v) hcf hw ⟨hQ, hL⟩ ⟨hc, k2, ⟨by show 0 ≤ v.l; omega, k4⟩, ?_⟩
    unfold wrW
    rw [x1, x2, x3, x4]
    rfl
  have hb : bgE (Sl.mk v.kr v.ar v.br v.rr v.gr v.sr v.mr 0 0 0) v.l = cnd (f38_6 v) 12 (cnd (f38_7 v) 20 0) := by rw [e6, e7]; rfl
  refine ⟨⟨fun h6 h7 => (main (by rw [hb, h6, h7]; rfl)).1, trivial⟩, ?_, ?_⟩
  · simp only [f38, Tr.get, f38_2, f38_3, f38_4, f38_5, wrA, wrB, wrE, wrS, hb]
    cases h6 : f38_6 v with
    | true => rfl
    | false =>
      cases h7 : f38_7 v with
      | true => rfl
      | false =>
        obtain ⟨_, q1, q2, q3⟩ := main (by rw [hb, h6, h7]; rfl)
        have q1 : (wrW (cpN v.z (nds (ndf v.t v.k v.a v.b v.r v.g v.s v.m v.d) v.L)) (Sl.mk v.kr v.ar v.br v.rr v.gr v.sr v.mr 0 0 0) v.w v.l).ok = !e38_0_1 (f38_8 v) (f38_10 v) := q1
        have q3 : (wrW (cpN v.z (nds (ndf v.t v.k v.a v.b v.r v.g v.s v.m v.d) v.L)) (Sl.mk v.kr v.ar v.br v.rr v.gr v.sr v.mr 0 0 0) v.w v.l).c = f38_11 v := q3
        rw [q1, q3, cnd_same]
        cases hx : e38_0_1 (f38_8 v) (f38_10 v) with
        | true => rfl
        | false =>
          obtain ⟨y1, y2⟩ := q2 hx
          rw [y1, y2]
          rfl
  · exact .refl _
noncomputable def f38n (v : V38) : Tr (Fin th.R) := .need (pre38 v) (.leaf (.tup [.int .u64 (wrA (cpN v.z (nds (ndf v.t v.k v.a v.b v.r v.g v.s v.m v.d) v.L)) (Sl.mk v.kr v.ar v.br v.rr v.gr v.sr v.mr 0 0 0) v.w v.l), .int .i64 (wrB (cpN v.z (nds (ndf v.t v.k v.a v.b v.r v.g v.s v.m v.d) v.L)) (Sl.mk v.kr v.ar v.br v.rr v.gr v.sr v.mr 0 0 0) v.w v.l), .int .i64 (wrE (cpN v.z (nds (ndf v.t v.k v.a v.b v.r v.g v.s v.m v.d) v.L)) (Sl.mk v.kr v.ar v.br v.rr v.gr v.sr v.mr 0 0 0) v.w v.l), .int .i64 (wrS (cpN v.z (nds (ndf v.t v.k v.a v.b v.r v.g v.s v.m v.d) v.L)) (Sl.mk v.kr v.ar v.br v.rr v.gr v.sr v.mr 0 0 0) v.w v.l)], [.row 100 9 v.Q (fun j => [.int .u64 (v.t j), .int .i64 (v.k j), .int .u64 (v.a j), .int .i64 (v.b j), .int .i64 (v.r j), .int .i64 (v.g j), .int .i64 (v.s j), .int .u64 (v.m j), .int .i64 (v.d j)])], []))
theorem s38n : Sound Try.prog th 38 (fnC d38 ofV38 f38n) := fnC_refine s38 fun v h => by
  obtain ⟨hp, _⟩ := h
  obtain ⟨a, b, c⟩ := n38 v hp
  exact ⟨a, b.symm, (qdd38 v).symm, c, by show 1 ≤ 1; decide⟩
noncomputable def nice38n : List (Nat × CF th.R) := (38, lift (fnC d38 ofV38 f38n)) :: nice68n
theorem nok38n : NiceOk Try.prog th nice38n := ⟨lift_sound s38n, nok68n⟩
end Go.Sx.M

namespace Go.Sx.M
open Go Go.Sx Go.Proofs Go.RowKit
set_option maxRecDepth 100000
structure V41 where
  z : Int
  L : Nat
  kr : Int
  ar : Int
  br : Int
  rr : Int
  gr : Int
  sr : Int
  mr : Int
  w : Int
  l : Int
  Q : Nat
  t : Nat → Int
  k : Nat → Int
  a : Nat → Int
  b : Nat → Int
  r : Nat → Int
  g : Nat → Int
  s : Nat → Int
  m : Nat → Int
  d : Nat → Int
def A41 (v : V41) : List SV := [.agg [.int .u64 v.z, .slc 0 9 0 v.L], .agg [.int .i64 v.kr, .int .u64 v.ar, .int .i64 v.br, .int .i64 v.rr, .int .i64 v.gr, .int .i64 v.sr, .int .u64 v.mr], .int .u64 v.w, .int .i64 v.l]
def H41 (v : V41) : List (HO th.R) := [.row 100 9 v.Q (fun j => [.int .u64 (v.t j), .int .i64 (v.k j), .int .u64 (v.a j), .int .i64 (v.b j), .int .i64 (v.r j), .int .i64 (v.g j), .int .i64 (v.s j), .int .u64 (v.m j), .int .i64 (v.d j)])]
def toV41 (v : V41) : List (Vl th.R) := [.i v.z, .n v.L, .i v.kr, .i v.ar, .i v.br, .i v.rr, .i v.gr, .i v.sr, .i v.mr, .i v.w, .i v.l, .n v.Q, .c v.t, .c v.k, .c v.a, .c v.b, .c v.r, .c v.g, .c v.s, .c v.m, .c v.d]
def ofV41 : List (Vl th.R) → Option V41
  | [.i z, .n L, .i kr, .i ar, .i br, .i rr, .i gr, .i sr, .i mr, .i w, .i l, .n Q, .c t, .c k, .c a, .c b, .c r, .c g, .c s, .c m, .c d] => some ⟨z, L, kr, ar, br, rr, gr, sr, mr, w, l, Q, t, k, a, b, r, g, s, m, d⟩
  | _ => none
def d41 : Ft := ⟨[.agg [.int .u64, .slc0 0 9], .agg [.int .i64, .int .u64, .int .i64, .int .i64, .int .i64, .int .i64, .int .u64], .int .u64, .int .i64], [.rowc 100 [.int .u64, .int .i64, .int .u64, .int .i64, .int .i64, .int .i64, .int .i64, .int .u64, .int .i64]]⟩
noncomputable def f41_5 (v : V41) : (Sl) := Sl.mk v.kr v.ar v.br v.rr v.gr v.sr v.mr (0 : Int) (0 : Int) (0 : Int)
noncomputable def f41_6 (v : V41) : (Int) := wrE (cpN v.z (nds (ndf v.t v.k v.a v.b v.r v.g v.s v.m v.d) v.L)) (f41_5 v) v.w v.l
noncomputable def f41_7 (v : V41) : (Int) := wrB (cpN v.z (nds (ndf v.t v.k v.a v.b v.r v.g v.s v.m v.d) v.L)) (f41_5 v) v.w v.l
noncomputable def f41_8 (v : V41) : (Int) := cnd (cnd (f41_6 v == (0 : Int)) (decide (f41_7 v > (0 : Int))) false) (23 : Int) (f41_6 v)
noncomputable def f41_0 (v : V41) : (Prop) := ∀ (i : Nat), scpL (0:Nat) ((fun (j : Nat) => [SV.int IntKind.u64 (v.t j), SV.int IntKind.i64 (v.k j), SV.int IntKind.u64 (v.a j), SV.int IntKind.i64 (v.b j), SV.int IntKind.i64 (v.r j), SV.int IntKind.i64 (v.g j), SV.int IntKind.i64 (v.s j), SV.int IntKind.u64 (v.m j), SV.int IntKind.i64 (v.d j)]) i) = true
noncomputable def f41_1 (v : V41) : (Prop) := ∀ (i : Nat), i < v.Q → (fun (j : Nat) => [SV.int IntKind.u64 (v.t j), SV.int IntKind.i64 (v.k j), SV.int IntKind.u64 (v.a j), SV.int IntKind.i64 (v.b j), SV.int IntKind.i64 (v.r j), SV.int IntKind.i64 (v.g j), SV.int IntKind.i64 (v.s j), SV.int IntKind.u64 (v.m j), SV.int IntKind.i64 (v.d j)]) i = elC (fun (j : Nat) => [SV.int IntKind.u64 (v.t j), SV.int IntKind.i64 (v.k j), SV.int IntKind.u64 (v.a j), SV.int IntKind.i64 (v.b j), SV.int IntKind.i64 (v.r j), SV.int IntKind.i64 (v.g j), SV.int IntKind.i64 (v.s j), SV.int IntKind.u64 (v.m j), SV.int IntKind.i64 (v.d j)]) (0:Nat) [Ck.int IntKind.u64, Ck.int IntKind.i64, Ck.int IntKind.u64, Ck.int IntKind.i64, Ck.int IntKind.i64, Ck.int IntKind.i64, Ck.int IntKind.i64, Ck.int IntKind.u64, Ck.int IntKind.i64] i
noncomputable def f41_2 (v : V41) : (Prop) := pre38 (V38.mk v.z v.L v.kr v.ar v.br v.rr v.gr v.sr v.mr v.w v.l v.Q v.t v.k v.a v.b v.r v.g v.s v.m v.d)
noncomputable def f41_3 (v : V41) : (Int) := cnd (f41_8 v != (0 : Int)) (0 : Int) (wrA (cpN v.z (nds (ndf v.t v.k v.a v.b v.r v.g v.s v.m v.d) v.L)) (f41_5 v) v.w v.l)
noncomputable def f41_4 (v : V41) : (Int) := cnd (f41_8 v != (0 : Int)) (f41_8 v) (0 : Int)
theorem n_f41_0 (v : V41) : f41_0 v := by
  unfold f41_0
  first
    | (intros; rfl)
    | (intro i; rfl)
    | (intro i _; rfl)
    | (intro _ i; rfl)
    | (intro _ i _; rfl)
    | (refine ⟨?_, ?_⟩ <;> intro i <;> rfl)
    | (refine ⟨?_, ?_, ?_⟩ <;> intro i <;> rfl)
    | (refine ⟨?_, ?_⟩ <;> intro i _ <;> rfl)
    | (repeat' apply And.intro) <;> first | (intro i; rfl) | (intro i _; rfl) | (intro i h; exact absurd h (Nat.not_lt_zero i)) | (intro i; exact scpL_rowSet (by rfl) (by rfl)) | (intro i; exact scpL_rowEl (by kernel_rfl) _)
    | (intros; (repeat' apply And.intro) <;> intros <;> first | rfl | (exact absurd (by assumption) (Nat.not_lt_zero _)))
    | omega
    | decide
theorem n_f41_1 (v : V41) : f41_1 v := by
  unfold f41_1
  first
    | (intros; rfl)
    | (intro i; rfl)
    | (intro i _; rfl)
    | (intro _ i; rfl)
    | (intro _ i _; rfl)
    | (refine ⟨?_, ?_⟩ <;> intro i <;> rfl)
    | (refine ⟨?_, ?_, ?_⟩ <;> intro i <;> rfl)
    | (refine ⟨?_, ?_⟩ <;> intro i _ <;> rfl)
    | (repeat' apply And.intro) <;> first | (intro i; rfl) | (intro i _; rfl) | (intro i h; exact absurd h (Nat.not_lt_zero i)) | (intro i; exact scpL_rowSet (by rfl) (by rfl)) | (intro i; exact scpL_rowEl (by kernel_rfl) _)
    | (intros; (repeat' apply And.intro) <;> intros <;> first | rfl | (exact absurd (by assumption) (Nat.not_lt_zero _)))
    | omega
    | decide
noncomputable def ff41 (v : V41) : Tr (Fin th.R) := (Tr.need (f41_0 v) (Tr.need (f41_1 v) (Tr.need (f41_2 v) (Tr.need (f41_0 v) (Tr.leaf (SV.tup [SV.int .u64 (f41_3 v), SV.int .i64 (f41_4 v)], [(HO.row (100 : Nat) (9 : Nat) (v.Q) (fun j => [SV.int .u64 (v.t j), SV.int .i64 (v.k j), SV.int .u64 (v.a j), SV.int .i64 (v.b j), SV.int .i64 (v.r j), SV.int .i64 (v.g j), SV.int .i64 (v.s j), SV.int .u64 (v.m j), SV.int .i64 (v.d j)]))], List.nil))))))
noncomputable def f41 (v : V41) : Tr (Fin th.R) := (Tr.need (f41_2 v) (Tr.leaf (SV.tup [SV.int .u64 (f41_3 v), SV.int .i64 (f41_4 v)], [(HO.row (100 : Nat) (9 : Nat) (v.Q) (fun j => [SV.int .u64 (v.t j), SV.int .i64 (v.k j), SV.int .u64 (v.a j), SV.int .i64 (v.b j), SV.int .i64 (v.r j), SV.int .i64 (v.g j), SV.int .i64 (v.s j), SV.int .u64 (v.m j), SV.int .i64 (v.d j)]))], [])))
noncomputable def C41 : CF th.R := fnC d41 ofV41 (f41 )
theorem q41 (v : V41) : (evFn th Try.prog (auto th Try.prog nice38n [] 20) (autoH [] [] [] [] : Hints th) 41) (A41 v) (H41 v) = some (ff41 v) := by kernel_rfl
theorem qg41 (v : V41) : ((ff41 v).map (setD [])).get = (f41 v).get := by kernel_rfl
theorem qd41 (v : V41) : allD 1 [] (ff41 v) = true := by kernel_rfl
theorem s41 : Sound Try.prog th 41 (C41 ) := fnC_sound (evFn_sound' (T := th) (P := Try.prog) (tbl := (auto th Try.prog nice38n [] 20)) (auto_sound (nice := nice38n) (us := []) nok38n 20) (H := (autoH [] [] [] [] : Hints th)) (k := 41) (fnLoops (LoopsOk_mem (fun _ => rfl) _ fun _ _ _ e => by cases e))) d41 A41 H41 toV41 (by kernel_rfl) (fun v => by kernel_rfl)
  (fun l v h => by
    unfold ofV41 at h
    split at h
    · cases h; rfl
    · cases h)
  [] (fun v => ⟨ff41 v, q41 v, fun h => by
    unfold f41 at h; unfold ff41
    simp only [Tr.ok, n_f41_0, n_f41_1, true_and, and_true, forall_const, implies_true] at h ⊢
    try exact h, qg41 v, qd41 v⟩)
noncomputable def nice41 : List (Nat × CF th.R) := (41, lift C41) :: nice38n
theorem nok41 : NiceOk Try.prog th nice41 := ⟨lift_sound s41, nok38n⟩
end Go.Sx.M

namespace Go.Sx.M
open Go Go.Sx Go.Proofs Go.RowKit
set_option maxRecDepth 100000
structure V6 where
  L : Nat
  k : Int
  a : Int
  b : Int
  r : Int
  g : Int
  s : Int
  m : Int
  x : Int
  n : Int
  Q : Nat
  ob : Obj
  pt : Nat → Int
  pk : Nat → Int
  pa : Nat → Int
  pb : Nat → Int
  pr : Nat → Int
  pg : Nat → Int
  ps : Nat → Int
  pm : Nat → Int
def A6 (v : V6) : List SV := [.slc 0 8 0 v.L, .agg [.int .i64 v.k, .int .u64 v.a, .int .i64 v.b, .int .i64 v.r, .int .i64 v.g, .int .i64 v.s, .int .u64 v.m], .int .u64 v.x, .int .i64 v.n]
def H6 (v : V6) : List (HO th.R) := [.ro 117 8 v.Q (fun j => [.int .u64 (v.pt j), .int .i64 (v.pk j), .int .u64 (v.pa j), .int .i64 (v.pb j), .int .i64 (v.pr j), .int .i64 (v.pg j), .int .i64 (v.ps j), .int .u64 (v.pm j)]) v.ob]
def toV6 (v : V6) : List (Vl th.R) := [.n v.L, .i v.k, .i v.a, .i v.b, .i v.r, .i v.g, .i v.s, .i v.m, .i v.x, .i v.n, .n v.Q, .o v.ob, .c v.pt, .c v.pk, .c v.pa, .c v.pb, .c v.pr, .c v.pg, .c v.ps, .c v.pm]
def ofV6 : List (Vl th.R) → Option V6
  | [.n L, .i k, .i a, .i b, .i r, .i g, .i s, .i m, .i x, .i n, .n Q, .o ob, .c pt, .c pk, .c pa, .c pb, .c pr, .c pg, .c ps, .c pm] => some ⟨L, k, a, b, r, g, s, m, x, n, Q, ob, pt, pk, pa, pb, pr, pg, ps, pm⟩
  | _ => none
def d6 : Ft := ⟨[.slc0 0 8, .agg [.int .i64, .int .u64, .int .i64, .int .i64, .int .i64, .int .i64, .int .u64], .int .u64, .int .i64], [.roc 117 [.int .u64, .int .i64, .int .u64, .int .i64, .int .i64, .int .i64, .int .i64, .int .u64]]⟩
noncomputable def f6_15 (v : V6) : (Bool) := decide ((↑v.L : Int) > (40 : Int))
noncomputable def f6_16 (v : V6) : (TS) := (opS (nds (ndf v.pt v.pk v.pa v.pb v.pr v.pg v.ps v.pm fun (u : Nat) => (0 : Int)) v.L)).fst
noncomputable def f6_17 (v : V6) : (Int) := (f6_16 v).f
noncomputable def f6_18 (v : V6) : (Int) := (f6_16 v).c
noncomputable def f6_19 (v : V6) : (Mem) := (f6_16 v).M
noncomputable def f6_20 (v : V6) : (V37a) := V37a.mk v.k v.a v.b v.r v.g v.s v.m v.x v.n (f6_17 v) (f6_18 v) (f6_19 v)
noncomputable def f6_21 (v : V6) : (Nat) := (opS (nds (ndf v.pt v.pk v.pa v.pb v.pr v.pg v.ps v.pm fun (u : Nat) => (0 : Int)) v.L)).snd.length
noncomputable def f6_22 (v : V6) : (Sl) := cp37 (f6_20 v)
noncomputable def f6_23 (v : V6) : (Sl) := Sl.mk v.k v.a v.b v.r v.g v.s v.m (0 : Int) (0 : Int) (0 : Int)
noncomputable def f6_24 (v : V6) : (Bool) := cnd (cnd (wkA (f6_19 v) (f6_22 v) v.x v.n != wrA (cpN (65536 : Int) (nds (ndf (fun (j : Nat) => (gN (opS (nds (ndf v.pt v.pk v.pa v.pb v.pr v.pg v.ps v.pm fun (u : Nat) => (0 : Int)) v.L)).snd j).t) (fun (j : Nat) => (gN (opS (nds (ndf v.pt v.pk v.pa v.pb v.pr v.pg v.ps v.pm fun (u : Nat) => (0 : Int)) v.L)).snd j).k) (fun (j : Nat) => (gN (opS (nds (ndf v.pt v.pk v.pa v.pb v.pr v.pg v.ps v.pm fun (u : Nat) => (0 : Int)) v.L)).snd j).a) (fun (j : Nat) => (gN (opS (nds (ndf v.pt v.pk v.pa v.pb v.pr v.pg v.ps v.pm fun (u : Nat) => (0 : Int)) v.L)).snd j).b) (fun (j : Nat) => (gN (opS (nds (ndf v.pt v.pk v.pa v.pb v.pr v.pg v.ps v.pm fun (u : Nat) => (0 : Int)) v.L)).snd j).r) (fun (j : Nat) => (gN (opS (nds (ndf v.pt v.pk v.pa v.pb v.pr v.pg v.ps v.pm fun (u : Nat) => (0 : Int)) v.L)).snd j).g) (fun (j : Nat) => (gN (opS (nds (ndf v.pt v.pk v.pa v.pb v.pr v.pg v.ps v.pm fun (u : Nat) => (0 : Int)) v.L)).snd j).s) (fun (j : Nat) => (gN (opS (nds (ndf v.pt v.pk v.pa v.pb v.pr v.pg v.ps v.pm fun (u : Nat) => (0 : Int)) v.L)).snd j).m) fun (j : Nat) => (gN (opS (nds (ndf v.pt v.pk v.pa v.pb v.pr v.pg v.ps v.pm fun (u : Nat) => (0 : Int)) v.L)).snd j).d) (f6_21 v))) (f6_23 v) v.x v.n) true (wkB (f6_19 v) (f6_22 v) v.x v.n != wrB (cpN (65536 : Int) (nds (ndf (fun (j : Nat) => (gN (opS (nds (ndf v.pt v.pk v.pa v.pb v.pr v.pg v.ps v.pm fun (u : Nat) => (0 : Int)) v.L)).snd j).t) (fun (j : Nat) => (gN (opS (nds (ndf v.pt v.pk v.pa v.pb v.pr v.pg v.ps v.pm fun (u : Nat) => (0 : Int)) v.L)).snd j).k) (fun (j : Nat) => (gN (opS (nds (ndf v.pt v.pk v.pa v.pb v.pr v.pg v.ps v.pm fun (u : Nat) => (0 : Int)) v.L)).snd j).a) (fun (j : Nat) => (gN (opS (nds (ndf v.pt v.pk v.pa v.pb v.pr v.pg v.ps v.pm fun (u : Nat) => (0 : Int)) v.L)).snd j).b) (fun (j : Nat) => (gN (opS (nds (ndf v.pt v.pk v.pa v.pb v.pr v.pg v.ps v.pm fun (u : Nat) => (0 : Int)) v.L)).snd j).r) (fun (j : Nat) => (gN (opS (nds (ndf v.pt v.pk v.pa v.pb v.pr v.pg v.ps v.pm fun (u : Nat) => (0 : Int)) v.L)).snd j).g) (fun (j : Nat) => (gN (opS (nds (ndf v.pt v.pk v.pa v.pb v.pr v.pg v.ps v.pm fun (u : Nat) => (0 : Int)) v.L)).snd j).s) (fun (j : Nat) => (gN (opS (nds (ndf v.pt v.pk v.pa v.pb v.pr v.pg v.ps v.pm fun (u : Nat) => (0 : Int)) v.L)).snd j).m) fun (j : Nat) => (gN (opS (nds (ndf v.pt v.pk v.pa v.pb v.pr v.pg v.ps v.pm fun (u : Nat) => (0 : Int)) v.L)).snd j).d) (f6_21 v))) (f6_23 v) v.x v.n)) true (wkE (f6_19 v) (f6_22 v) v.x v.n != wrE (cpN (65536 : Int) (nds (ndf (fun (j : Nat) => (gN (opS (nds (ndf v.pt v.pk v.pa v.pb v.pr v.pg v.ps v.pm fun (u : Nat) => (0 : Int)) v.L)).snd j).t) (fun (j : Nat) => (gN (opS (nds (ndf v.pt v.pk v.pa v.pb v.pr v.pg v.ps v.pm fun (u : Nat) => (0 : Int)) v.L)).snd j).k) (fun (j : Nat) => (gN (opS (nds (ndf v.pt v.pk v.pa v.pb v.pr v.pg v.ps v.pm fun (u : Nat) => (0 : Int)) v.L)).snd j).a) (fun (j : Nat) => (gN (opS (nds (ndf v.pt v.pk v.pa v.pb v.pr v.pg v.ps v.pm fun (u : Nat) => (0 : Int)) v.L)).snd j).b) (fun (j : Nat) => (gN (opS (nds (ndf v.pt v.pk v.pa v.pb v.pr v.pg v.ps v.pm fun (u : Nat) => (0 : Int)) v.L)).snd j).r) (fun (j : Nat) => (gN (opS (nds (ndf v.pt v.pk v.pa v.pb v.pr v.pg v.ps v.pm fun (u : Nat) => (0 : Int)) v.L)).snd j).g) (fun (j : Nat) => (gN (opS (nds (ndf v.pt v.pk v.pa v.pb v.pr v.pg v.ps v.pm fun (u : Nat) => (0 : Int)) v.L)).snd j).s) (fun (j : Nat) => (gN (opS (nds (ndf v.pt v.pk v.pa v.pb v.pr v.pg v.ps v.pm fun (u : Nat) => (0 : Int)) v.L)).snd j).m) fun (j : Nat) => (gN (opS (nds (ndf v.pt v.pk v.pa v.pb v.pr v.pg v.ps v.pm fun (u : Nat) => (0 : Int)) v.L)).snd j).d) (f6_21 v))) (f6_23 v) v.x v.n)
noncomputable def f6_25 (v : V6) : (V39a) := V39a.mk v.k v.a v.b v.r v.g v.s v.m v.x v.n (f6_17 v) (f6_18 v) (f6_19 v)
noncomputable def f6_26 (v : V6) : (Int) := wrS (cpN (65536 : Int) (nds (ndf (fun (j : Nat) => (gN (opS (nds (ndf v.pt v.pk v.pa v.pb v.pr v.pg v.ps v.pm fun (u : Nat) => (0 : Int)) v.L)).snd j).t) (fun (j : Nat) => (gN (opS (nds (ndf v.pt v.pk v.pa v.pb v.pr v.pg v.ps v.pm fun (u : Nat) => (0 : Int)) v.L)).snd j).k) (fun (j : Nat) => (gN (opS (nds (ndf v.pt v.pk v.pa v.pb v.pr v.pg v.ps v.pm fun (u : Nat) => (0 : Int)) v.L)).snd j).a) (fun (j : Nat) => (gN (opS (nds (ndf v.pt v.pk v.pa v.pb v.pr v.pg v.ps v.pm fun (u : Nat) => (0 : Int)) v.L)).snd j).b) (fun (j : Nat) => (gN (opS (nds (ndf v.pt v.pk v.pa v.pb v.pr v.pg v.ps v.pm fun (u : Nat) => (0 : Int)) v.L)).snd j).r) (fun (j : Nat) => (gN (opS (nds (ndf v.pt v.pk v.pa v.pb v.pr v.pg v.ps v.pm fun (u : Nat) => (0 : Int)) v.L)).snd j).g) (fun (j : Nat) => (gN (opS (nds (ndf v.pt v.pk v.pa v.pb v.pr v.pg v.ps v.pm fun (u : Nat) => (0 : Int)) v.L)).snd j).s) (fun (j : Nat) => (gN (opS (nds (ndf v.pt v.pk v.pa v.pb v.pr v.pg v.ps v.pm fun (u : Nat) => (0 : Int)) v.L)).snd j).m) fun (j : Nat) => (gN (opS (nds (ndf v.pt v.pk v.pa v.pb v.pr v.pg v.ps v.pm fun (u : Nat) => (0 : Int)) v.L)).snd j).d) (f6_21 v))) (f6_23 v) v.x v.n
noncomputable def f6_27 (v : V6) : (Bool) := cnd (f6_24 v) true (wkS (f6_19 v) (cp39 (f6_25 v)) v.x v.n != f6_26 v)
noncomputable def f6_28 (v : V6) : (V41) := V41.mk (65536 : Int) (f6_21 v) v.k v.a v.b v.r v.g v.s v.m v.x v.n (f6_21 v) (fun (j : Nat) => (gN (opS (nds (ndf v.pt v.pk v.pa v.pb v.pr v.pg v.ps v.pm fun (u : Nat) => (0 : Int)) v.L)).snd j).t) (fun (j : Nat) => (gN (opS (nds (ndf v.pt v.pk v.pa v.pb v.pr v.pg v.ps v.pm fun (u : Nat) => (0 : Int)) v.L)).snd j).k) (fun (j : Nat) => (gN (opS (nds (ndf v.pt v.pk v.pa v.pb v.pr v.pg v.ps v.pm fun (u : Nat) => (0 : Int)) v.L)).snd j).a) (fun (j : Nat) => (gN (opS (nds (ndf v.pt v.pk v.pa v.pb v.pr v.pg v.ps v.pm fun (u : Nat) => (0 : Int)) v.L)).snd j).b) (fun (j : Nat) => (gN (opS (nds (ndf v.pt v.pk v.pa v.pb v.pr v.pg v.ps v.pm fun (u : Nat) => (0 : Int)) v.L)).snd j).r) (fun (j : Nat) => (gN (opS (nds (ndf v.pt v.pk v.pa v.pb v.pr v.pg v.ps v.pm fun (u : Nat) => (0 : Int)) v.L)).snd j).g) (fun (j : Nat) => (gN (opS (nds (ndf v.pt v.pk v.pa v.pb v.pr v.pg v.ps v.pm fun (u : Nat) => (0 : Int)) v.L)).snd j).s) (fun (j : Nat) => (gN (opS (nds (ndf v.pt v.pk v.pa v.pb v.pr v.pg v.ps v.pm fun (u : Nat) => (0 : Int)) v.L)).snd j).m) fun (j : Nat) => (gN (opS (nds (ndf v.pt v.pk v.pa v.pb v.pr v.pg v.ps v.pm fun (u : Nat) => (0 : Int)) v.L)).snd j).d
noncomputable def f6_0 (v : V6) : (Prop) := pre35 V35.mk
noncomputable def f6_1 (v : V6) : (Prop) := false = false → f6_15 v = false → ∀ (i : Nat), scpL (0:Nat) ((fun (j : Nat) => [SV.int IntKind.u64 (v.pt j), SV.int IntKind.i64 (v.pk j), SV.int IntKind.u64 (v.pa j), SV.int IntKind.i64 (v.pb j), SV.int IntKind.i64 (v.pr j), SV.int IntKind.i64 (v.pg j), SV.int IntKind.i64 (v.ps j), SV.int IntKind.u64 (v.pm j)]) i) = true
noncomputable def f6_2 (v : V6) : (Prop) := false = false → f6_15 v = false → ∀ (i : Nat), i < v.Q → (fun (j : Nat) => [SV.int IntKind.u64 (v.pt j), SV.int IntKind.i64 (v.pk j), SV.int IntKind.u64 (v.pa j), SV.int IntKind.i64 (v.pb j), SV.int IntKind.i64 (v.pr j), SV.int IntKind.i64 (v.pg j), SV.int IntKind.i64 (v.ps j), SV.int IntKind.u64 (v.pm j)]) i = elC (fun (j : Nat) => [SV.int IntKind.u64 (v.pt j), SV.int IntKind.i64 (v.pk j), SV.int IntKind.u64 (v.pa j), SV.int IntKind.i64 (v.pb j), SV.int IntKind.i64 (v.pr j), SV.int IntKind.i64 (v.pg j), SV.int IntKind.i64 (v.ps j), SV.int IntKind.u64 (v.pm j)]) (0:Nat) [Ck.int IntKind.u64, Ck.int IntKind.i64, Ck.int IntKind.u64, Ck.int IntKind.i64, Ck.int IntKind.i64, Ck.int IntKind.i64, Ck.int IntKind.i64, Ck.int IntKind.u64] i
noncomputable def f6_3 (v : V6) : (Prop) := false = false → f6_15 v = false → pre36 (V36.mk v.L v.Q v.ob v.pt v.pk v.pa v.pb v.pr v.pg v.ps v.pm)
noncomputable def f6_4 (v : V6) : (Prop) := false = false → f6_15 v = false → (∀ (i : Nat), scpL (0:Nat) ((fun (j : Nat) => [SV.int IntKind.u64 (v.pt j), SV.int IntKind.i64 (v.pk j), SV.int IntKind.u64 (v.pa j), SV.int IntKind.i64 (v.pb j), SV.int IntKind.i64 (v.pr j), SV.int IntKind.i64 (v.pg j), SV.int IntKind.i64 (v.ps j), SV.int IntKind.u64 (v.pm j)]) i) = true) ∧ ∀ (i : Nat), scpL (0:Nat) ((fun (j : Nat) => ndC (gN (opS (nds (ndf v.pt v.pk v.pa v.pb v.pr v.pg v.ps v.pm fun (u : Nat) => (0 : Int)) v.L)).snd j)) i) = true
noncomputable def f6_5 (v : V6) : (Prop) := false = false → f6_15 v = false → false = false → pre37 (f6_20 v)
noncomputable def f6_6 (v : V6) : (Prop) := false = false → f6_15 v = false → false = false → ∀ (i : Nat), scpL (0:Nat) ((fun (j : Nat) => ndC (gN (opS (nds (ndf v.pt v.pk v.pa v.pb v.pr v.pg v.ps v.pm fun (u : Nat) => (0 : Int)) v.L)).snd j)) i) = true
noncomputable def f6_7 (v : V6) : (Prop) := false = false → f6_15 v = false → false = false → ∀ (i : Nat), i < f6_21 v → (fun (j : Nat) => ndC (gN (opS (nds (ndf v.pt v.pk v.pa v.pb v.pr v.pg v.ps v.pm fun (u : Nat) => (0 : Int)) v.L)).snd j)) i = elC (fun (j : Nat) => ndC (gN (opS (nds (ndf v.pt v.pk v.pa v.pb v.pr v.pg v.ps v.pm fun (u : Nat) => (0 : Int)) v.L)).snd j)) (0:Nat) [Ck.int IntKind.u64, Ck.int IntKind.i64, Ck.int IntKind.u64, Ck.int IntKind.i64, Ck.int IntKind.i64, Ck.int IntKind.i64, Ck.int IntKind.i64, Ck.int IntKind.u64, Ck.int IntKind.i64] i
noncomputable def f6_8 (v : V6) : (Prop) := false = false → f6_15 v = false → false = false → pre38 (V38.mk (65536 : Int) (f6_21 v) v.k v.a v.b v.r v.g v.s v.m v.x v.n (f6_21 v) (fun (j : Nat) => (gN (opS (nds (ndf v.pt v.pk v.pa v.pb v.pr v.pg v.ps v.pm fun (u : Nat) => (0 : Int)) v.L)).snd j).t) (fun (j : Nat) => (gN (opS (nds (ndf v.pt v.pk v.pa v.pb v.pr v.pg v.ps v.pm fun (u : Nat) => (0 : Int)) v.L)).snd j).k) (fun (j : Nat) => (gN (opS (nds (ndf v.pt v.pk v.pa v.pb v.pr v.pg v.ps v.pm fun (u : Nat) => (0 : Int)) v.L)).snd j).a) (fun (j : Nat) => (gN (opS (nds (ndf v.pt v.pk v.pa v.pb v.pr v.pg v.ps v.pm fun (u : Nat) => (0 : Int)) v.L)).snd j).b) (fun (j : Nat) => (gN (opS (nds (ndf v.pt v.pk v.pa v.pb v.pr v.pg v.ps v.pm fun (u : Nat) => (0 : Int)) v.L)).snd j).r) (fun (j : Nat) => (gN (opS (nds (ndf v.pt v.pk v.pa v.pb v.pr v.pg v.ps v.pm fun (u : Nat) => (0 : Int)) v.L)).snd j).g) (fun (j : Nat) => (gN (opS (nds (ndf v.pt v.pk v.pa v.pb v.pr v.pg v.ps v.pm fun (u : Nat) => (0 : Int)) v.L)).snd j).s) (fun (j : Nat) => (gN (opS (nds (ndf v.pt v.pk v.pa v.pb v.pr v.pg v.ps v.pm fun (u : Nat) => (0 : Int)) v.L)).snd j).m) fun (j : Nat) => (gN (opS (nds (ndf v.pt v.pk v.pa v.pb v.pr v.pg v.ps v.pm fun (u : Nat) => (0 : Int)) v.L)).snd j).d)
noncomputable def f6_9 (v : V6) : (Prop) := false = false → f6_15 v = false → false = false → cnd (!f6_24 v) true false = true → pre39 (f6_25 v)
noncomputable def f6_10 (v : V6) : (Prop) := false = false → f6_15 v = false → false = false → f6_27 v = false → pre40 (V40.mk v.k v.a v.b v.r v.g v.s v.m v.x v.n (f6_17 v) (f6_18 v) (f6_19 v))
noncomputable def f6_11 (v : V6) : (Prop) := false = false → f6_15 v = false → false = false → f6_27 v = false → ∀ (i : Nat), scpL (0:Nat) ((fun (j : Nat) => ndC (gN (opS (nds (ndf v.pt v.pk v.pa v.pb v.pr v.pg v.ps v.pm fun (u : Nat) => (0 : Int)) v.L)).snd j)) i) = true
noncomputable def f6_12 (v : V6) : (Prop) := false = false → f6_15 v = false → false = false → f6_27 v = false → ∀ (i : Nat), i < f6_21 v → (fun (j : Nat) => ndC (gN (opS (nds (ndf v.pt v.pk v.pa v.pb v.pr v.pg v.ps v.pm fun (u : Nat) => (0 : Int)) v.L)).snd j)) i = elC (fun (j : Nat) => ndC (gN (opS (nds (ndf v.pt v.pk v.pa v.pb v.pr v.pg v.ps v.pm fun (u : Nat) => (0 : Int)) v.L)).snd j)) (0:Nat) [Ck.int IntKind.u64, Ck.int IntKind.i64, Ck.int IntKind.u64, Ck.int IntKind.i64, Ck.int IntKind.i64, Ck.int IntKind.i64, Ck.int IntKind.i64, Ck.int IntKind.u64, Ck.int IntKind.i64] i
noncomputable def f6_13 (v : V6) : (Prop) := false = false → f6_15 v = false → false = false → f6_27 v = false → f41_2 (f6_28 v)
noncomputable def f6_14 (v : V6) : (Bool) := cnd (f6_15 v) true (cnd (f6_27 v) false (cnd (cnd (fdA (f6_19 v) (f6_23 v) v.x v.n == f41_3 (f6_28 v)) (fdE (f6_19 v) (f6_23 v) v.x v.n == f41_4 (f6_28 v)) false) (cnd (decide (f6_26 v ≤ v.n)) true (decide (v.n < (1 : Int)))) false))
theorem n_f6_1 (v : V6) : f6_1 v := by
  unfold f6_1
  first
    | (intros; rfl)
    | (intro i; rfl)
    | (intro i _; rfl)
    | (intro _ i; rfl)
    | (intro _ i _; rfl)
    | (refine ⟨?_, ?_⟩ <;> intro i <;> rfl)
    | (refine ⟨?_, ?_, ?_⟩ <;> intro i <;> rfl)
    | (refine ⟨?_, ?_⟩ <;> intro i _ <;> rfl)
    | (repeat' apply And.intro) <;> first | (intro i; rfl) | (intro i _; rfl) | (intro i h; exact absurd h (Nat.not_lt_zero i)) | (intro i; exact scpL_rowSet (by rfl) (by rfl)) | (intro i; exact scpL_rowEl (by kernel_rfl) _)
    | (intros; (repeat' apply And.intro) <;> intros <;> first | rfl | (exact absurd (by assumption) (Nat.not_lt_zero _)))
    | omega
    | decide
theorem n_f6_2 (v : V6) : f6_2 v := by
  unfold f6_2
  first
    | (intros; rfl)
    | (intro i; rfl)
    | (intro i _; rfl)
    | (intro _ i; rfl)
    | (intro _ i _; rfl)
    | (refine ⟨?_, ?_⟩ <;> intro i <;> rfl)
    | (refine ⟨?_, ?_, ?_⟩ <;> intro i <;> rfl)
    | (refine ⟨?_, ?_⟩ <;> intro i _ <;> rfl)
    | (repeat' apply And.intro) <;> first | (intro i; rfl) | (intro i _; rfl) | (intro i h; exact absurd h (Nat.not_lt_zero i)) | (intro i; exact scpL_rowSet (by rfl) (by rfl)) | (intro i; exact scpL_rowEl (by kernel_rfl) _)
    | (intros; (repeat' apply And.intro) <;> intros <;> first | rfl | (exact absurd (by assumption) (Nat.not_lt_zero _)))
    | omega
    | decide
theorem n_f6_4 (v : V6) : f6_4 v := by
  unfold f6_4
  first
    | (intros; rfl)
    | (intro i; rfl)
    | (intro i _; rfl)
    | (intro _ i; rfl)
    | (intro _ i _; rfl)
    | (refine ⟨?_, ?_⟩ <;> intro i <;> rfl)
    | (refine ⟨?_, ?_, ?_⟩ <;> intro i <;> rfl)
    | (refine ⟨?_, ?_⟩ <;> intro i _ <;> rfl)
    | (repeat' apply And.intro) <;> first | (intro i; rfl) | (intro i _; rfl) | (intro i h; exact absurd h (Nat.not_lt_zero i)) | (intro i; exact scpL_rowSet (by rfl) (by rfl)) | (intro i; exact scpL_rowEl (by kernel_rfl) _)
    | (intros; (repeat' apply And.intro) <;> intros <;> first | rfl | (exact absurd (by assumption) (Nat.not_lt_zero _)))
    | omega
    | decide
theorem n_f6_6 (v : V6) : f6_6 v := by
  unfold f6_6
  first
    | (intros; rfl)
    | (intro i; rfl)
    | (intro i _; rfl)
    | (intro _ i; rfl)
    | (intro _ i _; rfl)
    | (refine ⟨?_, ?_⟩ <;> intro i <;> rfl)
    | (refine ⟨?_, ?_, ?_⟩ <;> intro i <;> rfl)
    | (refine ⟨?_, ?_⟩ <;> intro i _ <;> rfl)
    | (repeat' apply And.intro) <;> first | (intro i; rfl) | (intro i _; rfl) | (intro i h; exact absurd h (Nat.not_lt_zero i)) | (intro i; exact scpL_rowSet (by rfl) (by rfl)) | (intro i; exact scpL_rowEl (by kernel_rfl) _)
    | (intros; (repeat' apply And.intro) <;> intros <;> first | rfl | (exact absurd (by assumption) (Nat.not_lt_zero _)))
    | omega
    | decide
theorem n_f6_7 (v : V6) : f6_7 v := by
  unfold f6_7
  first
    | (intros; rfl)
    | (intro i; rfl)
    | (intro i _; rfl)
    | (intro _ i; rfl)
    | (intro _ i _; rfl)
    | (refine ⟨?_, ?_⟩ <;> intro i <;> rfl)
    | (refine ⟨?_, ?_, ?_⟩ <;> intro i <;> rfl)
    | (refine ⟨?_, ?_⟩ <;> intro i _ <;> rfl)
    | (repeat' apply And.intro) <;> first | (intro i; rfl) | (intro i _; rfl) | (intro i h; exact absurd h (Nat.not_lt_zero i)) | (intro i; exact scpL_rowSet (by rfl) (by rfl)) | (intro i; exact scpL_rowEl (by kernel_rfl) _)
    | (intros; (repeat' apply And.intro) <;> intros <;> first | rfl | (exact absurd (by assumption) (Nat.not_lt_zero _)))
    | omega
    | decide
theorem n_f6_11 (v : V6) : f6_11 v := by
  unfold f6_11
  first
    | (intros; rfl)
    | (intro i; rfl)
    | (intro i _; rfl)
    | (intro _ i; rfl)
    | (intro _ i _; rfl)
    | (refine ⟨?_, ?_⟩ <;> intro i <;> rfl)
    | (refine ⟨?_, ?_, ?_⟩ <;> intro i <;> rfl)
    | (refine ⟨?_, ?_⟩ <;> intro i _ <;> rfl)
    | (repeat' apply And.intro) <;> first | (intro i; rfl) | (intro i _; rfl) | (intro i h; exact absurd h (Nat.not_lt_zero i)) | (intro i; exact scpL_rowSet (by rfl) (by rfl)) | (intro i; exact scpL_rowEl (by kernel_rfl) _)
    | (intros; (repeat' apply And.intro) <;> intros <;> first | rfl | (exact absurd (by assumption) (Nat.not_lt_zero _)))
    | omega
    | decide
theorem n_f6_12 (v : V6) : f6_12 v := by
  unfold f6_12
  first
    | (intros; rfl)
    | (intro i; rfl)
    | (intro i _; rfl)
    | (intro _ i; rfl)
    | (intro _ i _; rfl)
    | (refine ⟨?_, ?_⟩ <;> intro i <;> rfl)
    | (refine ⟨?_, ?_, ?_⟩ <;> intro i <;> rfl)
    | (refine ⟨?_, ?_⟩ <;> intro i _ <;> rfl)
    | (repeat' apply And.intro) <;> first | (intro i; rfl) | (intro i _; rfl) | (intro i h; exact absurd h (Nat.not_lt_zero i)) | (intro i; exact scpL_rowSet (by rfl) (by rfl)) | (intro i; exact scpL_rowEl (by kernel_rfl) _)
    | (intros; (repeat' apply And.intro) <;> intros <;> first | rfl | (exact absurd (by assumption) (Nat.not_lt_zero _)))
    | omega
    | decide
noncomputable def ff6 (v : V6) : Tr (Fin th.R) := (Tr.need (f6_0 v) (Tr.need (f6_1 v) (Tr.need (f6_2 v) (Tr.need (f6_3 v) (Tr.need (f6_4 v) (Tr.need (f6_5 v) (Tr.need (f6_6 v) (Tr.need (f6_7 v) (Tr.need (f6_8 v) (Tr.need (f6_6 v) (Tr.need (f6_9 v) (Tr.need (f6_10 v) (Tr.need (f6_11 v) (Tr.need (f6_12 v) (Tr.need (f6_13 v) (Tr.need (f6_11 v) (Tr.leaf (SV.bool (f6_14 v), [(HO.ro (117 : Nat) (8 : Nat) (v.Q) (fun j => [SV.int .u64 (v.pt j), SV.int .i64 (v.pk j), SV.int .u64 (v.pa j), SV.int .i64 (v.pb j), SV.int .i64 (v.pr j), SV.int .i64 (v.pg j), SV.int .i64 (v.ps j), SV.int .u64 (v.pm j)]) (v.ob))], List.nil))))))))))))))))))
noncomputable def f6 (v : V6) : Tr (Fin th.R) := (Tr.need (f6_0 v) (Tr.need (f6_3 v) (Tr.need (f6_5 v) (Tr.need (f6_8 v) (Tr.need (f6_9 v) (Tr.need (f6_10 v) (Tr.need (f6_13 v) (Tr.leaf (SV.bool (f6_14 v), [(HO.ro (117 : Nat) (8 : Nat) (v.Q) (fun j => [SV.int .u64 (v.pt j), SV.int .i64 (v.pk j), SV.int .u64 (v.pa j), SV.int .i64 (v.pb j), SV.int .i64 (v.pr j), SV.int .i64 (v.pg j), SV.int .i64 (v.ps j), SV.int .u64 (v.pm j)]) (v.ob))], [])))))))))
noncomputable def C6 : CF th.R := fnC d6 ofV6 (f6 )
theorem q6 (v : V6) : (evFn th Try.prog (auto th Try.prog nice41 [] 20) (autoH [] [] [] [] : Hints th) 6) (A6 v) (H6 v) = some (ff6 v) := by kernel_rfl
theorem qg6 (v : V6) : ((ff6 v).map (setD [])).get = (f6 v).get := by kernel_rfl
theorem qd6 (v : V6) : allD 1 [] (ff6 v) = true := by kernel_rfl
theorem s6 : Sound Try.prog th 6 (C6 ) := fnC_sound (evFn_sound' (T := th) (P := Try.prog) (tbl := (auto th Try.prog nice41 [] 20)) (auto_sound (nice := nice41) (us := []) nok41 20) (H := (autoH [] [] [] [] : Hints th)) (k := 6) (fnLoops (LoopsOk_mem (fun _ => rfl) _ fun _ _ _ e => by cases e))) d6 A6 H6 toV6 (by kernel_rfl) (fun v => by kernel_rfl)
  (fun l v h => by
    unfold ofV6 at h
    split at h
    · cases h; rfl
    · cases h)
  [] (fun v => ⟨ff6 v, q6 v, fun h => by
    unfold f6 at h; unfold ff6
    simp only [Tr.ok, n_f6_1, n_f6_2, n_f6_4, n_f6_6, n_f6_7, n_f6_11, n_f6_12, true_and, and_true, forall_const, implies_true] at h ⊢
    try exact h, qg6 v, qd6 v⟩)
theorem qdd6 (v : V6) : (f6 v).get.2.2 = [] := by
  rw [← qg6, Tr.map_get]; rfl
end Go.Sx.M

namespace Go.Sx.M
open Go Go.Sx Go.Proofs Go.RowKit
theorem node_ok {z : Sl} (h : SlR z) (hr : rgt z = true) (k2 : z.k = 2) : pOk z = true := by
  have e := ok_eq h
  rw [rgt2 h hr, k2] at e
  cases hp : pOk z with
  | true => rfl
  | false => rw [hp] at e; cases e
/-- What a tree's slot holds is what the document's has. -/
theorem RepS.cap {t : TS} {l : List Nd} {σ : Int → Sl} (h : RepS t l σ) {a : Int} (hu : U64 a) : capS (Go.Sx.M.ld t.M a) = cpN t.M.size l a := by
  unfold cpN
  rcases h.ld hu with ⟨_, m0, _, el, ⟨i, _, ht, hf, hm, _⟩ | ⟨_, hf, hz⟩⟩ | ⟨_, m0, _, el, hf, _⟩
  · obtain ⟨p, q, hs⟩ := DL_mem h.dl hm
    rw [ht] at hs
    rw [el, hs, m0, hf, decide_eq_false (by omega)]
    rfl
  · rw [el, hz, m0, hf]
    rfl
  · rw [el, hf, bne_iff_ne.2 m0]
    rfl
theorem RepS.cfOk {t : TS} {l : List Nd} {σ : Int → Sl} (h : RepS t l σ) (z : Int) : Go.Sx.M.cfOk (cpN z l) := by
  intro a
  unfold cpN
  cases hc : cnd (mayT z a != 0) true (decide (fnd l a < 0)) with
  | true => exact ⟨sl0_R, fun e => by cases e⟩
  | false =>
    simp only [cnd_or, Bool.or_eq_false_iff, decide_eq_false_iff_not] at hc
    rcases fnd_spec h.nd a with ⟨i, _, _, hf, hm, _⟩ | ⟨_, hf⟩
    · have ok := h.ok _ hm
      rw [hf]
      exact ⟨ok.R, fun e => node_ok ok.R ok.r e⟩
    · omega
theorem wkM_congr {cf cg : Int → Sl} (h : ∀ a, U64 a → cf a = cg a) {w : Int} : ∀ (n : Nat) (l c na nb ng nm : Int), wkM cf w n l c na nb ng nm = wkM cg w n l c na nb ng nm
  | 0, _, _, _, _, _, _ => rfl
  | n + 1, l, c, na, nb, ng, nm => by
    simp only [wkM]
    rw [h _ (pS_U _ _ _ _ _ _)]
    split
    · rfl
    · split
      · rfl
      · exact wkM_congr h n _ _ _ _ _ _
/-- How far a walk goes. -/
theorem wkM_ends {cf : Int → Sl} {w : Int} (hc : ∀ a, SlR (cf a)) : ∀ {n : Nat} {l c na nb ng nm : Int}, pnOk l nb ng → 1 ≤ l → l.toNat < n → 0 ≤ c → c + l ≤ 1000 →
    ((wkM cf w n l c na nb ng nm).ok = true → 0 ≤ (wkM cf w n l c na nb ng nm).l) ∧ (wkM cf w n l c na nb ng nm).c ≤ c + l
  | 0, _, _, _, _, _, _, _, _, h, _, _ => by omega
  | n + 1, l, c, na, nb, ng, nm, hp, hl, hn, h0, h1 => by
    have hw : IntKind.i64.wrap (c + 1) = c + 1 := wi (by omega) (by omega)
    simp only [wkM]
    cases hF : pF w l nb ng nm with
    | true =>
      refine ⟨(fun e => by cases e), ?_⟩
      show IntKind.i64.wrap (c + 1) ≤ c + l
      rw [hw]; omega
    | false =>
      obtain ⟨q1, q2, q3⟩ := pL_less hp hF
      show ((match (pL w l nb ng nm == 0) with
        | true => (⟨pS w l na nb ng nm, !false, pL w l nb ng nm, IntKind.i64.wrap (c + 1)⟩ : Wr)
        | false => match !pOk (cf (pS w l na nb ng nm)) with
          | true => ⟨pS w l na nb ng nm, true, pL w l nb ng nm, IntKind.i64.wrap (c + 1)⟩
          | false => wkM cf w n (pL w l nb ng nm) (IntKind.i64.wrap (c + 1)) (pNa (cf (pS w l na nb ng nm))) (pNb (cf (pS w l na nb ng nm))) (pNg (cf (pS w l na nb ng nm))) (pNm (cf (pS w l na nb ng nm)))).ok = true → 0 ≤ (match (pL w l nb ng nm == 0) with
        | true => (⟨pS w l na nb ng nm, !false, pL w l nb ng nm, IntKind.i64.wrap (c + 1)⟩ : Wr)
        | false => match !pOk (cf (pS w l na nb ng nm)) with
          | true => ⟨pS w l na nb ng nm, true, pL w l nb ng nm, IntKind.i64.wrap (c + 1)⟩
          | false => wkM cf w n (pL w l nb ng nm) (IntKind.i64.wrap (c + 1)) (pNa (cf (pS w l na nb ng nm))) (pNb (cf (pS w l na nb ng nm))) (pNg (cf (pS w l na nb ng nm))) (pNm (cf (pS w l na nb ng nm)))).l) ∧ (match (pL w l nb ng nm == 0) with
        | true => (⟨pS w l na nb ng nm, !false, pL w l nb ng nm, IntKind.i64.wrap (c + 1)⟩ : Wr)
        | false => match !pOk (cf (pS w l na nb ng nm)) with
          | true => ⟨pS w l na nb ng nm, true, pL w l nb ng nm, IntKind.i64.wrap (c + 1)⟩
          | false => wkM cf w n (pL w l nb ng nm) (IntKind.i64.wrap (c + 1)) (pNa (cf (pS w l na nb ng nm))) (pNb (cf (pS w l na nb ng nm))) (pNg (cf (pS w l na nb ng nm))) (pNm (cf (pS w l na nb ng nm)))).c ≤ c + l
      by_cases hz : pL w l nb ng nm = 0
      · rw [hz]
        refine ⟨fun _ => Int.le_refl 0, ?_⟩
        show IntKind.i64.wrap (c + 1) ≤ c + l
        rw [hw]; omega
      · rw [beq_eq_false_iff_ne.2 hz]
        cases ho : !pOk (cf (pS w l na nb ng nm)) with
        | true =>
          refine ⟨fun _ => q2, ?_⟩
          show IntKind.i64.wrap (c + 1) ≤ c + l
          rw [hw]; omega
        | false =>
          have ho : pOk (cf (pS w l na nb ng nm)) = true := by simpa using ho
          obtain ⟨_, _, _, e2, e3, _, e5, e6⟩ := pOk_spec (hc _) ho
          have hp' : pnOk (pL w l nb ng nm) (pNb (cf (pS w l na nb ng nm))) (pNg (cf (pS w l na nb ng nm))) := by
            rw [e2, e3]
            exact ⟨⟨q2, by have := hp.1.2; omega⟩, e5, e6⟩
          rw [hw]
          obtain ⟨r1, r2⟩ := wkM_ends (cf := cf) (w := w) hc (n := n) (l := pL w l nb ng nm) (c := c + 1) (na := pNa (cf (pS w l na nb ng nm))) (nm := pNm (cf (pS w l na nb ng nm))) hp' (by omega) (by omega) (by omega) (by omega)
          refine ⟨r1, ?_⟩
          have r3 : c + 1 + pL w l nb ng nm ≤ c + l := by omega
          exact Int.le_trans r2 r3
theorem fdx {M : Mem} {z : Sl} {w l : Int} : cnd (fdE M z w l != 0) 0 (wkA M z w l) = fdA M z w l := by
  unfold fdA fdE
  by_cases hE : wkE M z w l = 0
  · rw [hE]
    cases (wkB M z w l != 0) <;> rfl
  · have h2 : (wkE M z w l != 0) = true := bne_iff_ne.2 hE
    rw [h2]
    show cnd (wkE M z w l != 0) 0 _ = 0
    rw [h2]
    rfl
theorem law6_true (v : V6) (hQ : v.Q = v.L) (hp : ∀ j, j < v.L → U64 (v.pt j) ∧ SlR (slN (ndf v.pt v.pk v.pa v.pb v.pr v.pg v.ps v.pm (fun _ => 0) j))) (hc : SlR ⟨v.k, v.a, v.b, v.r, v.g, v.s, v.m, 0, 0, 0⟩) (hx : U64 v.x) :
    (f6 v).ok ∧ f6_14 v = true := by
  have hd : f6_15 v = false → v.L ≤ 40 := fun h => by
    have := of_decide_eq_false h
    omega
  have hM : MemR (f6_19 v) := (opS_R _ _ hp).1
  have hnds : nds (ndf (fun j => (gN (opS (nds (ndf v.pt v.pk v.pa v.pb v.pr v.pg v.ps v.pm fun _ => 0) v.L)).2 j).t) (fun j => (gN (opS (nds (ndf v.pt v.pk v.pa v.pb v.pr v.pg v.ps v.pm fun _ => 0) v.L)).2 j).k) (fun j => (gN (opS (nds (ndf v.pt v.pk v.pa v.pb v.pr v.pg v.ps v.pm fun _ => 0) v.L)).2 j).a)
      (fun j => (gN (opS (nds (ndf v.pt v.pk v.pa v.pb v.pr v.pg v.ps v.pm fun _ => 0) v.L)).2 j).b) (fun j => (gN (opS (nds (ndf v.pt v.pk v.pa v.pb v.pr v.pg v.ps v.pm fun _ => 0) v.L)).2 j).r) (fun j => (gN (opS (nds (ndf v.pt v.pk v.pa v.pb v.pr v.pg v.ps v.pm fun _ => 0) v.L)).2 j).g)
      (fun j => (gN (opS (nds (ndf v.pt v.pk v.pa v.pb v.pr v.pg v.ps v.pm fun _ => 0) v.L)).2 j).s) (fun j => (gN (opS (nds (ndf v.pt v.pk v.pa v.pb v.pr v.pg v.ps v.pm fun _ => 0) v.L)).2 j).m) (fun j => (gN (opS (nds (ndf v.pt v.pk v.pa v.pb v.pr v.pg v.ps v.pm fun _ => 0) v.L)).2 j).d)) (f6_21 v) = (opS (nds (ndf v.pt v.pk v.pa v.pb v.pr v.pg v.ps v.pm fun _ => 0) v.L)).2 := ndf_gN _
  have hlen : f6_15 v = false → f6_21 v ≤ 100000 := fun h => by
    have := hd h
    have h2 := opS_len (ndf v.pt v.pk v.pa v.pb v.pr v.pg v.ps v.pm fun _ => 0) v.L
    show (opS (nds (ndf v.pt v.pk v.pa v.pb v.pr v.pg v.ps v.pm fun _ => 0) v.L)).2.length ≤ 100000
    omega
  have hrep : f6_15 v = false → (∃ σ, RepS (f6_16 v) (opS (nds (ndf v.pt v.pk v.pa v.pb v.pr v.pg v.ps v.pm fun _ => 0) v.L)).2 σ) ∧ (f6_19 v).size = 65536 := fun h => by
    have := hd h
    exact opS_rep _ v.L (by omega) fun j hj => ⟨(hp j hj).1, (hp j hj).2, rfl⟩
  have n38 : f6_15 v = false → cfOk (cpN 65536 (nds (ndf (fun j => (gN (opS (nds (ndf v.pt v.pk v.pa v.pb v.pr v.pg v.ps v.pm fun _ => 0) v.L)).2 j).t) (fun j => (gN (opS (nds (ndf v.pt v.pk v.pa v.pb v.pr v.pg v.ps v.pm fun _ => 0) v.L)).2 j).k) (fun j => (gN (opS (nds (ndf v.pt v.pk v.pa v.pb v.pr v.pg v.ps v.pm fun _ => 0) v.L)).2 j).a)
      (fun j => (gN (opS (nds (ndf v.pt v.pk v.pa v.pb v.pr v.pg v.ps v.pm fun _ => 0) v.L)).2 j).b) (fun j => (gN (opS (nds (ndf v.pt v.pk v.pa v.pb v.pr v.pg v.ps v.pm fun _ => 0) v.L)).2 j).r) (fun j => (gN (opS (nds (ndf v.pt v.pk v.pa v.pb v.pr v.pg v.ps v.pm fun _ => 0) v.L)).2 j).g)
      (fun j => (gN (opS (nds (ndf v.pt v.pk v.pa v.pb v.pr v.pg v.ps v.pm fun _ => 0) v.L)).2 j).s) (fun j => (gN (opS (nds (ndf v.pt v.pk v.pa v.pb v.pr v.pg v.ps v.pm fun _ => 0) v.L)).2 j).m) (fun j => (gN (opS (nds (ndf v.pt v.pk v.pa v.pb v.pr v.pg v.ps v.pm fun _ => 0) v.L)).2 j).d)) (f6_21 v))) := fun h => by
    rw [hnds]
    obtain ⟨⟨σ, R⟩, _⟩ := hrep h
    exact R.cfOk _
  refine ⟨⟨trivial, fun _ h => ⟨⟨hQ, by show v.L ≤ 1000; have := hd h; omega⟩, hp⟩, fun _ _ _ => ⟨hc, hM⟩, fun _ h _ => ⟨⟨rfl, hlen h⟩, hc, hx, n38 h⟩, fun _ _ _ _ => ⟨hc, hM⟩, fun _ _ _ _ => ⟨hc, hM⟩, fun _ h _ _ => ⟨⟨rfl, hlen h⟩, hc, hx, n38 h⟩, trivial⟩, ?_⟩
  unfold f6_14
  cases h15 : f6_15 v with
  | true => rfl
  | false =>
    obtain ⟨⟨σ, R⟩, hz⟩ := hrep h15
    have hcf : ∀ a, U64 a → capS (ld (f6_19 v) a) = cpN 65536 (opS (nds (ndf v.pt v.pk v.pa v.pb v.pr v.pg v.ps v.pm fun _ => 0) v.L)).2 a := fun a ha => by
      have := R.cap ha
      have hz : (f6_16 v).M.size = 65536 := hz
      rw [hz] at this
      exact this
    have eW : wkW (f6_19 v) (f6_23 v) v.x v.n = wrW (cpN 65536 (opS (nds (ndf v.pt v.pk v.pa v.pb v.pr v.pg v.ps v.pm fun _ => 0) v.L)).2) (f6_23 v) v.x v.n := wkM_congr hcf _ _ _ _ _ _ _
    have eA : wkA (f6_19 v) (f6_23 v) v.x v.n = wrA (cpN 65536 (opS (nds (ndf v.pt v.pk v.pa v.pb v.pr v.pg v.ps v.pm fun _ => 0) v.L)).2) (f6_23 v) v.x v.n := by unfold wkA wrA; rw [eW]
    have eB : wkB (f6_19 v) (f6_23 v) v.x v.n = wrB (cpN 65536 (opS (nds (ndf v.pt v.pk v.pa v.pb v.pr v.pg v.ps v.pm fun _ => 0) v.L)).2) (f6_23 v) v.x v.n := by unfold wkB wrB; rw [eW]
    have eE : wkE (f6_19 v) (f6_23 v) v.x v.n = wrE (cpN 65536 (opS (nds (ndf v.pt v.pk v.pa v.pb v.pr v.pg v.ps v.pm fun _ => 0) v.L)).2) (f6_23 v) v.x v.n := by unfold wkE wrE; rw [eW]
    have eS : wkS (f6_19 v) (f6_23 v) v.x v.n = wrS (cpN 65536 (opS (nds (ndf v.pt v.pk v.pa v.pb v.pr v.pg v.ps v.pm fun _ => 0) v.L)).2) (f6_23 v) v.x v.n := by unfold wkS wrS; rw [eW]
    have c22 : f6_22 v = f6_23 v := rfl
    have c39 : cp39 (f6_25 v) = f6_23 v := rfl
    have c41 : f41_5 (f6_28 v) = f6_23 v := rfl
    have e24 : f6_24 v = false := by
      unfold f6_24
      rw [hnds, c22, eA, eB, eE]
      simp [cnd]
    have e26 : f6_26 v = wrS (cpN 65536 (opS (nds (ndf v.pt v.pk v.pa v.pb v.pr v.pg v.ps v.pm fun _ => 0) v.L)).2) (f6_23 v) v.x v.n := by
      unfold f6_26
      rw [hnds]
    have e27 : f6_27 v = false := by
      unfold f6_27
      rw [e24, c39, eS, e26]
      simp [cnd]
    -- how far it goes
    have ends : (wrE (cpN 65536 (opS (nds (ndf v.pt v.pk v.pa v.pb v.pr v.pg v.ps v.pm fun _ => 0) v.L)).2) (f6_23 v) v.x v.n = 0 → 0 ≤ wrB (cpN 65536 (opS (nds (ndf v.pt v.pk v.pa v.pb v.pr v.pg v.ps v.pm fun _ => 0) v.L)).2) (f6_23 v) v.x v.n) ∧
        (wrS (cpN 65536 (opS (nds (ndf v.pt v.pk v.pa v.pb v.pr v.pg v.ps v.pm fun _ => 0) v.L)).2) (f6_23 v) v.x v.n ≤ v.n ∨ v.n < 1) := by
      by_cases hb : bgE (f6_23 v) v.n = 0
      · obtain ⟨_, k2, k3, k4⟩ := bgE_ok hb
        obtain ⟨_, _, _, x2, x3, _, x5, x6⟩ := pOk_spec (z := f6_23 v) hc k2
        have hpn : pnOk v.n (pNb (f6_23 v)) (pNg (f6_23 v)) := by rw [x2, x3]; exact ⟨⟨by omega, k4⟩, x5, x6⟩
        obtain ⟨r1, r2⟩ := wkM_ends (cf := cpN 65536 (opS (nds (ndf v.pt v.pk v.pa v.pb v.pr v.pg v.ps v.pm fun _ => 0) v.L)).2) (w := v.x) (fun a => (R.cfOk 65536 a).1) (n := v.n.toNat + 1) (c := 0) (na := pNa (f6_23 v)) (nm := pNm (f6_23 v)) hpn k3 (by omega) (by omega) (by omega)
        unfold wrE wrB wrS wrW
        rw [hb]
        constructor
        · intro he
          cases hok : (wkM (cpN 65536 (opS (nds (ndf v.pt v.pk v.pa v.pb v.pr v.pg v.ps v.pm fun _ => 0) v.L)).2) v.x (v.n.toNat + 1) v.n 0 (pNa (f6_23 v)) (pNb (f6_23 v)) (pNg (f6_23 v)) (pNm (f6_23 v))).ok with
          | true => exact r1 hok
          | false => exact Int.le_refl 0
        · left
          show (wkM _ _ _ _ _ _ _ _ _).c ≤ v.n
          omega
      · have hb2 : (bgE (f6_23 v) v.n != 0) = true := bne_iff_ne.2 hb
        unfold wrE wrB wrS
        rw [hb2]
        refine ⟨fun _ => Int.le_refl 0, ?_⟩
        show 0 ≤ v.n ∨ v.n < 1
        omega
    rw [e27]
    simp only [cnd_f]
    have hcp : cpN (f6_28 v).z (nds (ndf (f6_28 v).t (f6_28 v).k (f6_28 v).a (f6_28 v).b (f6_28 v).r (f6_28 v).g (f6_28 v).s (f6_28 v).m (f6_28 v).d) (f6_28 v).L) = cpN 65536 (opS (nds (ndf v.pt v.pk v.pa v.pb v.pr v.pg v.ps v.pm fun _ => 0) v.L)).2 := congrArg (cpN 65536) hnds
    have w28 : (f6_28 v).w = v.x := rfl
    have l28 : (f6_28 v).l = v.n := rfl
    have e8 : f41_8 (f6_28 v) = fdE (f6_19 v) (f6_23 v) v.x v.n := by
      unfold f41_8 f41_6 f41_7 fdE
      rw [c41, hcp, w28, l28, eE, eB]
      have h0 := ends.1
      generalize wrE (cpN 65536 (opS (nds (ndf v.pt v.pk v.pa v.pb v.pr v.pg v.ps v.pm fun _ => 0) v.L)).2) (f6_23 v) v.x v.n = E at h0 ⊢
      generalize wrB (cpN 65536 (opS (nds (ndf v.pt v.pk v.pa v.pb v.pr v.pg v.ps v.pm fun _ => 0) v.L)).2) (f6_23 v) v.x v.n = B at h0 ⊢
      by_cases hE : E = 0
      · have := h0 hE
        by_cases hB : B = 0
        · simp [cnd, hE, hB]
        · have hb : (B != 0) = true := bne_iff_ne.2 hB
          have hb2 : decide (B > 0) = true := decide_eq_true (by omega)
          rw [hE, hb, hb2]
          rfl
      · have h1 : (E == 0) = false := beq_eq_false_iff_ne.2 hE
        have h2 : (E != 0) = true := bne_iff_ne.2 hE
        rw [h1, h2]
        rfl
    have e3 : f41_3 (f6_28 v) = fdA (f6_19 v) (f6_23 v) v.x v.n := by
      unfold f41_3
      rw [e8, c41, hcp, w28, l28, ← eA]
      exact fdx
    have e4 : f41_4 (f6_28 v) = fdE (f6_19 v) (f6_23 v) v.x v.n := by
      unfold f41_4
      rw [e8]
      by_cases he : fdE (f6_19 v) (f6_23 v) v.x v.n = 0
      · rw [he]; rfl
      · rw [bne_iff_ne.2 he]; rfl
    rw [e3, e4, e26]
    rcases ends.2 with h | h
    · simp [cnd, h]
    · simp [cnd_eq, h]
end Go.Sx.M

namespace Go.Sx.M
open Go Go.Sx Go.Proofs Go.RowKit
set_option maxRecDepth 100000
def pre6 (v : V6) : Prop := v.Q = v.L ∧ (∀ j, j < v.L → U64 (v.pt j) ∧ SlR (slN (ndf v.pt v.pk v.pa v.pb v.pr v.pg v.ps v.pm (fun _ => 0) j))) ∧ SlR ⟨v.k, v.a, v.b, v.r, v.g, v.s, v.m, 0, 0, 0⟩ ∧ U64 v.x
theorem n6 (v : V6) (h : pre6 v) : (f6 v).ok ∧ (f6 v).get.1 = .bool true ∧ HOws (f6 v).get.2.1 [HO.ro 117 8 v.Q (fun j => [.int .u64 (v.pt j), .int .i64 (v.pk j), .int .u64 (v.pa j), .int .i64 (v.pb j), .int .i64 (v.pr j), .int .i64 (v.pg j), .int .i64 (v.ps j), .int .u64 (v.pm j)]) v.ob] := by
  obtain ⟨h1, h2, h3, h4⟩ := h
  obtain ⟨k1, k2⟩ := law6_true v h1 h2 h3 h4
  exact ⟨k1, congrArg SV.bool k2, .refl _⟩
noncomputable def f6n (v : V6) : Tr (Fin th.R) := .need (pre6 v) (.leaf (.bool true, [.ro 117 8 v.Q (fun j => [.int .u64 (v.pt j), .int .i64 (v.pk j), .int .u64 (v.pa j), .int .i64 (v.pb j), .int .i64 (v.pr j), .int .i64 (v.pg j), .int .i64 (v.ps j), .int .u64 (v.pm j)]) v.ob], []))
theorem s6n : Sound Try.prog th 6 (fnC d6 ofV6 f6n) := fnC_refine s6 fun v h => by
  obtain ⟨hp, _⟩ := h
  obtain ⟨a, b, c⟩ := n6 v hp
  exact ⟨a, b.symm, (qdd6 v).symm, c, by show 1 ≤ 1; decide⟩
theorem claw6 (v : V6) : fnC d6 ofV6 f6n (A6 v) (H6 v) = some (.need (∀ i, i < v.Q → (fun j => [.int .u64 (v.pt j), .int .i64 (v.pk j), .int .u64 (v.pa j), .int .i64 (v.pb j), .int .i64 (v.pr j), .int .i64 (v.pg j), .int .i64 (v.ps j), .int .u64 (v.pm j)] : Nat → List SV) i = elC (fun j => [.int .u64 (v.pt j), .int .i64 (v.pk j), .int .u64 (v.pa j), .int .i64 (v.pb j), .int .i64 (v.pr j), .int .i64 (v.pg j), .int .i64 (v.ps j), .int .u64 (v.pm j)] : Nat → List SV) 0 [.int .u64, .int .i64, .int .u64, .int .i64, .int .i64, .int .i64, .int .i64, .int .u64] i) ((f6n v).map (fixF (H6 v)))) := by kernel_rfl
end Go.Sx.M

